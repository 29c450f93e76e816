/-
  decimal.guess: some float32 below the infinity.
-/
import Derived.Test.YtdibapfehdhfjaaDoorEngO
import Derived.Test.YtdibapfehdhfjaaDoorProg
namespace Go.Proofs.YtdibapfehdhfjaaDoor
open Go.Eng
set_option linter.unusedVariables false
set_option linter.unusedSimpArgs false

def guessP (n : Int) : Prop := 0 ≤ n ∧ n ≤ 2139095039
theorem guessP_ne : ∃ n, guessP n := ⟨0, by unfold guessP; omega⟩
def guess_ic : IC :=
  (.seq
  (.reg 4 none [
    ⟨(some 4), .mv (.v (.int .u32 0)), none⟩])
  (.seq
  (.reg 5 none [
    ⟨(some 5), .mv (.v (.float .f64 0)), none⟩])
  (.seq
  (.seq
  (.reg 10 none [
    ⟨(some 7), .mv (.t 0), none⟩,
    ⟨(some 8), .lenS (.t 7), none⟩,
    ⟨(some 9), .mm false (.t 8) (.v (.int .i64 18)), none⟩,
    ⟨(some 10), .mv (.v (.int .i64 0)), none⟩])
  (.block 0
    (.loop
      (.seq
      (.reg 11 none [
        ⟨(some 11), .bin false .lss (.t 10) (.t 9), none⟩])
      (.seq
      (.cond (.t 11)
        .skip
        (.exit 0))
      (.seq
      (.block 1
        (.seq
        (.reg 6 none [
          ⟨(some 12), .mv (.t 10), none⟩,
          ⟨(some 6), .mv (.t 12), none⟩])
        (.seq
        (.reg 5 none [
          ⟨(some 13), .mv (.t 5), none⟩,
          ⟨(some 14), .floA .mul .f64 (.v (.float .f64 4621819117588971520)) (.t 13), none⟩,
          ⟨(some 15), .mv (.t 0), none⟩,
          ⟨(some 16), .mv (.t 6), none⟩,
          ⟨(some 17), .index (.t 15) (.t 16), none⟩,
          ⟨(some 18), .bin false .sub (.t 17) (.v (.int .u8 48)), none⟩,
          ⟨(some 19), .floI .f64 (.t 18), none⟩,
          ⟨(some 20), .floA .add .f64 (.t 14) (.t 19), none⟩,
          ⟨(some 5), .mv (.t 20), none⟩])
        (.reg 1 none [
          ⟨(some 21), .mv (.t 1), none⟩,
          ⟨(some 22), .bin true .sub (.t 21) (.v (.int .i64 1)), none⟩,
          ⟨(some 1), .mv (.t 22), none⟩]))))
      (.reg 10 none [
        ⟨(some 23), .bin false .add (.t 10) (.v (.int .i64 1)), none⟩,
        ⟨(some 10), .mv (.t 23), none⟩])))))))
  (.seq
  (.block 2
    (.loop
      (.seq
      (.seq
      (.reg 25 none [
        ⟨(some 24), .mv (.t 1), none⟩,
        ⟨(some 25), .bin false .gtr (.t 24) (.v (.int .i64 0)), none⟩])
      (.cond (.t 25)
        .skip
        (.exit 2)))
      (.seq
      (.block 3
        (.reg 5 none [
          ⟨(some 28), .mv (.t 5), none⟩,
          ⟨(some 29), .floA .mul .f64 (.t 28) (.v (.float .f64 4621819117588971520)), none⟩,
          ⟨(some 5), .mv (.t 29), none⟩]))
      (.reg 1 none [
        ⟨(some 26), .mv (.t 1), none⟩,
        ⟨(some 27), .bin true .sub (.t 26) (.v (.int .i64 1)), none⟩,
        ⟨(some 1), .mv (.t 27), none⟩])))))
  (.seq
  (.block 4
    (.loop
      (.seq
      (.seq
      (.reg 31 none [
        ⟨(some 30), .mv (.t 1), none⟩,
        ⟨(some 31), .bin false .lss (.t 30) (.v (.int .i64 0)), none⟩])
      (.cond (.t 31)
        .skip
        (.exit 4)))
      (.seq
      (.block 5
        (.reg 5 none [
          ⟨(some 34), .mv (.t 5), none⟩,
          ⟨(some 35), .floA .quo .f64 (.t 34) (.v (.float .f64 4621819117588971520)), none⟩,
          ⟨(some 5), .mv (.t 35), none⟩]))
      (.reg 1 none [
        ⟨(some 32), .mv (.t 1), none⟩,
        ⟨(some 33), .bin true .add (.t 32) (.v (.int .i64 1)), none⟩,
        ⟨(some 1), .mv (.t 33), none⟩])))))
  (.seq
  (.reg 4 none [
    ⟨(some 36), .mv (.t 5), none⟩,
    ⟨(some 37), .floC .f64 .f32 (.t 36), none⟩,
    ⟨(some 38), .ext .f32bits [(.t 37)], none⟩,
    ⟨(some 39), .mm false (.t 38) (.v (.int .u32 2139095039)), none⟩,
    ⟨(some 4), .mv (.t 39), none⟩])
  .ret))))))
theorem guess_chk : chk Tryd.prog 41 [22, 27, 33] = some (guess_ic, [.tmp 4], 40) := by kernel_rfl
/-- Rounds that are left for a place. -/
def wayN (n : Int) : Nat := if n ≤ 9223372036854775808 then n.toNat else 18446744073709551616
theorem wayN_down {n : Int} (h : 0 < n) : wayN (w64 (n - 1)) < wayN n := by
  unfold wayN
  unfold w64
  rw [IntKind.wrap_i64]
  split <;> split <;> omega
theorem wayN_up {n : Int} (h : n < 0) : wayN (-w64 (n + 1)) < wayN (-n) := by
  unfold wayN
  unfold w64
  rw [IntKind.wrap_i64]
  split <;> split <;> omega
set_option maxHeartbeats 0 in
theorem guess_walk (s : ByteArray) (n : Int) (w : World) (ht : tabOK noX w) : Calls Tryd.prog 41 #[.string s, .int .i64 n] w fun e w' => ∃ b, guessP b ∧ e = .returned (.int .u32 b) ∧ Stays (fun _ => False) w w' := by
  have := walk guess_chk 11 (fun _ => none) (fun f C h => by cases h) [.c (.o (.val (.string s))), .c (.o (.val (.int .i64 n)))] [] (Nat.le_of_ble_eq_true rfl) noX w (fun _ => undef) (HpSat.nil _ _ ht _) (fun v hv => by simp at hv; rcases hv with rfl | rfl <;> trivial) (fun x _ => ∃ b, x = .c (.o (.val (.int .u32 b))) ∧ guessP b) ?_
  · refine this.mono ?_
    rintro e w' ⟨ρ', r, hp', _, _, he, _, ⟨b, rfl, hb⟩, _, hs⟩
    exact ⟨b, hb, he, hs⟩
  simp only [guess_ic, argSl]
  repeat' (first
    | with_reducible refine VC.seq ?_
    | with_reducible refine VC.skip ?_
    | with_reducible refine VC.block ?_
    | with_reducible refine VC.blk ?_
    | (refine VC.exit (by rfl) ?_)
    | (with_reducible refine VC.reg ?_; simp only [cond_or, cond_and, implies_true, imp_self, decide_eq_true_eq, decide_eq_false_iff_not, runOps, runP, actOf, argE, argsE, bound, getE, putD, putE, putR, pruneE, owe, ret1, fit, quot, remd, binR, unR, beqR, mmR, beq_self_eq_true, pickB, fillL, setL, SV.cells, vals, subList, cellsLoad, rowLoad, loadR, storeR, faddrR, iaddrR, subR, srcL, apart0, appendR, rowLen, etOf, decs, fieldR, loOf, dstOk, allOne, S0.one, Value.oneCell', ET.enc, ET.sz, ET.dec, ET.dft, word_app, wordT_app, wordS_app, tbl_nil, tbl_cons, Int.toNat_natCast, Int.toNat_zero, Nat.reduceBEq, Nat.reduceBNe, Nat.blt, Nat.ble, cond_true, cond_false, true_and, and_true, forall_const, true_implies, decide_true, decide_false, Bool.and_true, Bool.and_false, Bool.true_and, Bool.false_and, Bool.or_false, Bool.or_true, Bool.true_or, Bool.false_or, reduceCtorEq, List.length_cons, List.length_nil, List.append_nil, List.nil_append, List.cons_append, List.getElem?_cons_zero, List.getElem?_cons_succ, List.getElem?_nil, tupSV, List.map_cons, List.map_nil, List.filterMap_cons, List.filterMap_nil, List.set_cons_zero, List.set_cons_succ, List.drop_zero, List.drop_succ_cons, List.take_succ_cons, List.take_zero, List.take_nil, List.drop_nil, Nat.reduceAdd, Nat.zero_add, Nat.add_zero, Nat.reduceMul, Nat.reduceLT, Nat.reduceLeDiff, bne_self_eq_false, bne_iff_ne, beq_self_eq_true, List.replicate, List.flatten_cons, List.flatten_nil, dite_true, dite_false, extQ, RQ.toR, AllP, arithB])
    | (with_reducible refine VC.regD ?_; simp only [runDraw, staticB, S0.ltB, cond_or, cond_and, implies_true, imp_self, decide_eq_true_eq, decide_eq_false_iff_not, runOps, runP, actOf, argE, argsE, bound, getE, putD, putE, putR, pruneE, owe, ret1, fit, quot, remd, binR, unR, beqR, mmR, beq_self_eq_true, pickB, fillL, setL, SV.cells, vals, subList, cellsLoad, rowLoad, loadR, storeR, faddrR, iaddrR, subR, srcL, apart0, appendR, rowLen, etOf, decs, fieldR, loOf, dstOk, allOne, S0.one, Value.oneCell', ET.enc, ET.sz, ET.dec, ET.dft, word_app, wordT_app, wordS_app, tbl_nil, tbl_cons, Int.toNat_natCast, Int.toNat_zero, Nat.reduceBEq, Nat.reduceBNe, Nat.blt, Nat.ble, cond_true, cond_false, true_and, and_true, forall_const, true_implies, decide_true, decide_false, Bool.and_true, Bool.and_false, Bool.true_and, Bool.false_and, Bool.or_false, Bool.or_true, Bool.true_or, Bool.false_or, reduceCtorEq, List.length_cons, List.length_nil, List.append_nil, List.nil_append, List.cons_append, List.getElem?_cons_zero, List.getElem?_cons_succ, List.getElem?_nil, tupSV, List.map_cons, List.map_nil, List.filterMap_cons, List.filterMap_nil, List.set_cons_zero, List.set_cons_succ, List.drop_zero, List.drop_succ_cons, List.take_succ_cons, List.take_zero, List.take_nil, List.drop_nil, Nat.reduceAdd, Nat.zero_add, Nat.add_zero, Nat.reduceMul, Nat.reduceLT, Nat.reduceLeDiff, bne_self_eq_false, bne_iff_ne, beq_self_eq_true, List.replicate, List.flatten_cons, List.flatten_nil, dite_true, dite_false, extQ, RQ.toR, AllP, arithB])
    | (with_reducible refine VC.ret ?_; simp only [FinOK, resE, rvE, mkRes, cond_or, cond_and, implies_true, imp_self, decide_eq_true_eq, decide_eq_false_iff_not, runOps, runP, actOf, argE, argsE, bound, getE, putD, putE, putR, pruneE, owe, ret1, fit, quot, remd, binR, unR, beqR, mmR, beq_self_eq_true, pickB, fillL, setL, SV.cells, vals, subList, cellsLoad, rowLoad, loadR, storeR, faddrR, iaddrR, subR, srcL, apart0, appendR, rowLen, etOf, decs, fieldR, loOf, dstOk, allOne, S0.one, Value.oneCell', ET.enc, ET.sz, ET.dec, ET.dft, word_app, wordT_app, wordS_app, tbl_nil, tbl_cons, Int.toNat_natCast, Int.toNat_zero, Nat.reduceBEq, Nat.reduceBNe, Nat.blt, Nat.ble, cond_true, cond_false, true_and, and_true, forall_const, true_implies, decide_true, decide_false, Bool.and_true, Bool.and_false, Bool.true_and, Bool.false_and, Bool.or_false, Bool.or_true, Bool.true_or, Bool.false_or, reduceCtorEq, List.length_cons, List.length_nil, List.append_nil, List.nil_append, List.cons_append, List.getElem?_cons_zero, List.getElem?_cons_succ, List.getElem?_nil, tupSV, List.map_cons, List.map_nil, List.filterMap_cons, List.filterMap_nil, List.set_cons_zero, List.set_cons_succ, List.drop_zero, List.drop_succ_cons, List.take_succ_cons, List.take_zero, List.take_nil, List.drop_nil, Nat.reduceAdd, Nat.zero_add, Nat.add_zero, Nat.reduceMul, Nat.reduceLT, Nat.reduceLeDiff, bne_self_eq_false, bne_iff_ne, beq_self_eq_true, List.replicate, List.flatten_cons, List.flatten_nil, dite_true, dite_false, extQ, RQ.toR, AllP, arithB])
    | with_reducible refine VC.mid ?_
    | (refine And.intro (by first | omega | (unfold InI64; omega) | (intros; simp_all; done) | (intros; simp_all [InI64, InI32]; omega)) ?_)
    | (refine VC.condT (by rfl) (fun h => ?_) (fun h => ?_) <;> (try (cases h; done)) <;> (try simp only [decide_eq_true_eq, decide_eq_false_iff_not, Bool.and_eq_true, Bool.or_eq_true, Bool.and_eq_false_iff, Bool.or_eq_false_iff, Bool.not_eq_true', Bool.not_eq_false', not_true_eq_false, not_false_eq_true, or_false, or_true, false_or, true_or, and_true, true_and, and_false, false_and] at h) <;> (try (simp only [*, reduceCtorEq] at h; done)) <;> (try (exfalso; omega; done))))
  generalize hL : (if (18 : Int) < (s.size : Int) then (18 : Int) else (s.size : Int)) = L
  have h1 : L ≤ s.size ∧ L ≤ 18 := by rw [← hL]; split <;> omega
  refine VC.loop (T := Nat × Int × Nat) (fun x => ⟨[(0, True, valSV (.string s)), (1, True, valSV (.int .i64 x.2.1)), (4, True, valSV (.int .u32 0)), (5, True, valSV (.float .f64 x.1)), (9, True, valSV (.int .i64 L)), (10, True, valSV (.int .i64 x.2.2))], []⟩) (fun _ => True) (fun x => L.toNat - x.2.2) (0, n, 0) [] [] trivial ?_ ?_
  · simp only [Weak, weakSl, weakHp, sameSB, eqSV, eqSC, eqL, eqS0, nils,  SV.ren, SC.ren, S0.ren, SV.ltB, SC.ltB, S0.ltB, nodupB, List.contains_nil, List.contains_cons, Bool.not_false, Bool.not_true, List.take_nil, List.range_zero, List.all_nil, List.all_cons, List.getD_cons_zero, List.getD_cons_succ, dite_true, valSV, cond_or, cond_and, implies_true, imp_self, decide_eq_true_eq, decide_eq_false_iff_not, runOps, runP, actOf, argE, argsE, bound, getE, putD, putE, putR, pruneE, owe, ret1, fit, quot, remd, binR, unR, beqR, mmR, beq_self_eq_true, pickB, fillL, setL, SV.cells, vals, subList, cellsLoad, rowLoad, loadR, storeR, faddrR, iaddrR, subR, srcL, apart0, appendR, rowLen, etOf, decs, fieldR, loOf, dstOk, allOne, S0.one, Value.oneCell', ET.enc, ET.sz, ET.dec, ET.dft, word_app, wordT_app, wordS_app, tbl_nil, tbl_cons, Int.toNat_natCast, Int.toNat_zero, Nat.reduceBEq, Nat.reduceBNe, Nat.blt, Nat.ble, cond_true, cond_false, true_and, and_true, forall_const, true_implies, decide_true, decide_false, Bool.and_true, Bool.and_false, Bool.true_and, Bool.false_and, Bool.or_false, Bool.or_true, Bool.true_or, Bool.false_or, reduceCtorEq, List.length_cons, List.length_nil, List.append_nil, List.nil_append, List.cons_append, List.getElem?_cons_zero, List.getElem?_cons_succ, List.getElem?_nil, tupSV, List.map_cons, List.map_nil, List.filterMap_cons, List.filterMap_nil, List.set_cons_zero, List.set_cons_succ, List.drop_zero, List.drop_succ_cons, List.take_succ_cons, List.take_zero, List.take_nil, List.drop_nil, Nat.reduceAdd, Nat.zero_add, Nat.add_zero, Nat.reduceMul, Nat.reduceLT, Nat.reduceLeDiff, bne_self_eq_false, bne_iff_ne, beq_self_eq_true, List.replicate, List.flatten_cons, List.flatten_nil, dite_true, dite_false]
    trivial
  · rintro ⟨b, m, i⟩ _
    simp only [valSV]
    repeat' (first | (first
    | with_reducible refine VC.seq ?_
    | with_reducible refine VC.skip ?_
    | with_reducible refine VC.block ?_
    | with_reducible refine VC.blk ?_
    | (refine VC.exit (by rfl) ?_)
    | (with_reducible refine VC.reg ?_; simp only [cond_or, cond_and, implies_true, imp_self, decide_eq_true_eq, decide_eq_false_iff_not, runOps, runP, actOf, argE, argsE, bound, getE, putD, putE, putR, pruneE, owe, ret1, fit, quot, remd, binR, unR, beqR, mmR, beq_self_eq_true, pickB, fillL, setL, SV.cells, vals, subList, cellsLoad, rowLoad, loadR, storeR, faddrR, iaddrR, subR, srcL, apart0, appendR, rowLen, etOf, decs, fieldR, loOf, dstOk, allOne, S0.one, Value.oneCell', ET.enc, ET.sz, ET.dec, ET.dft, word_app, wordT_app, wordS_app, tbl_nil, tbl_cons, Int.toNat_natCast, Int.toNat_zero, Nat.reduceBEq, Nat.reduceBNe, Nat.blt, Nat.ble, cond_true, cond_false, true_and, and_true, forall_const, true_implies, decide_true, decide_false, Bool.and_true, Bool.and_false, Bool.true_and, Bool.false_and, Bool.or_false, Bool.or_true, Bool.true_or, Bool.false_or, reduceCtorEq, List.length_cons, List.length_nil, List.append_nil, List.nil_append, List.cons_append, List.getElem?_cons_zero, List.getElem?_cons_succ, List.getElem?_nil, tupSV, List.map_cons, List.map_nil, List.filterMap_cons, List.filterMap_nil, List.set_cons_zero, List.set_cons_succ, List.drop_zero, List.drop_succ_cons, List.take_succ_cons, List.take_zero, List.take_nil, List.drop_nil, Nat.reduceAdd, Nat.zero_add, Nat.add_zero, Nat.reduceMul, Nat.reduceLT, Nat.reduceLeDiff, bne_self_eq_false, bne_iff_ne, beq_self_eq_true, List.replicate, List.flatten_cons, List.flatten_nil, dite_true, dite_false, extQ, RQ.toR, AllP, arithB])
    | (with_reducible refine VC.regD ?_; simp only [runDraw, staticB, S0.ltB, cond_or, cond_and, implies_true, imp_self, decide_eq_true_eq, decide_eq_false_iff_not, runOps, runP, actOf, argE, argsE, bound, getE, putD, putE, putR, pruneE, owe, ret1, fit, quot, remd, binR, unR, beqR, mmR, beq_self_eq_true, pickB, fillL, setL, SV.cells, vals, subList, cellsLoad, rowLoad, loadR, storeR, faddrR, iaddrR, subR, srcL, apart0, appendR, rowLen, etOf, decs, fieldR, loOf, dstOk, allOne, S0.one, Value.oneCell', ET.enc, ET.sz, ET.dec, ET.dft, word_app, wordT_app, wordS_app, tbl_nil, tbl_cons, Int.toNat_natCast, Int.toNat_zero, Nat.reduceBEq, Nat.reduceBNe, Nat.blt, Nat.ble, cond_true, cond_false, true_and, and_true, forall_const, true_implies, decide_true, decide_false, Bool.and_true, Bool.and_false, Bool.true_and, Bool.false_and, Bool.or_false, Bool.or_true, Bool.true_or, Bool.false_or, reduceCtorEq, List.length_cons, List.length_nil, List.append_nil, List.nil_append, List.cons_append, List.getElem?_cons_zero, List.getElem?_cons_succ, List.getElem?_nil, tupSV, List.map_cons, List.map_nil, List.filterMap_cons, List.filterMap_nil, List.set_cons_zero, List.set_cons_succ, List.drop_zero, List.drop_succ_cons, List.take_succ_cons, List.take_zero, List.take_nil, List.drop_nil, Nat.reduceAdd, Nat.zero_add, Nat.add_zero, Nat.reduceMul, Nat.reduceLT, Nat.reduceLeDiff, bne_self_eq_false, bne_iff_ne, beq_self_eq_true, List.replicate, List.flatten_cons, List.flatten_nil, dite_true, dite_false, extQ, RQ.toR, AllP, arithB])
    | (with_reducible refine VC.ret ?_; simp only [FinOK, resE, rvE, mkRes, cond_or, cond_and, implies_true, imp_self, decide_eq_true_eq, decide_eq_false_iff_not, runOps, runP, actOf, argE, argsE, bound, getE, putD, putE, putR, pruneE, owe, ret1, fit, quot, remd, binR, unR, beqR, mmR, beq_self_eq_true, pickB, fillL, setL, SV.cells, vals, subList, cellsLoad, rowLoad, loadR, storeR, faddrR, iaddrR, subR, srcL, apart0, appendR, rowLen, etOf, decs, fieldR, loOf, dstOk, allOne, S0.one, Value.oneCell', ET.enc, ET.sz, ET.dec, ET.dft, word_app, wordT_app, wordS_app, tbl_nil, tbl_cons, Int.toNat_natCast, Int.toNat_zero, Nat.reduceBEq, Nat.reduceBNe, Nat.blt, Nat.ble, cond_true, cond_false, true_and, and_true, forall_const, true_implies, decide_true, decide_false, Bool.and_true, Bool.and_false, Bool.true_and, Bool.false_and, Bool.or_false, Bool.or_true, Bool.true_or, Bool.false_or, reduceCtorEq, List.length_cons, List.length_nil, List.append_nil, List.nil_append, List.cons_append, List.getElem?_cons_zero, List.getElem?_cons_succ, List.getElem?_nil, tupSV, List.map_cons, List.map_nil, List.filterMap_cons, List.filterMap_nil, List.set_cons_zero, List.set_cons_succ, List.drop_zero, List.drop_succ_cons, List.take_succ_cons, List.take_zero, List.take_nil, List.drop_nil, Nat.reduceAdd, Nat.zero_add, Nat.add_zero, Nat.reduceMul, Nat.reduceLT, Nat.reduceLeDiff, bne_self_eq_false, bne_iff_ne, beq_self_eq_true, List.replicate, List.flatten_cons, List.flatten_nil, dite_true, dite_false, extQ, RQ.toR, AllP, arithB])
    | with_reducible refine VC.mid ?_
    | (refine And.intro (by first | omega | (unfold InI64; omega) | (intros; simp_all; done) | (intros; simp_all [InI64, InI32]; omega)) ?_)
    | (refine VC.condT (by rfl) (fun h => ?_) (fun h => ?_) <;> (try (cases h; done)) <;> (try simp only [decide_eq_true_eq, decide_eq_false_iff_not, Bool.and_eq_true, Bool.or_eq_true, Bool.and_eq_false_iff, Bool.or_eq_false_iff, Bool.not_eq_true', Bool.not_eq_false', not_true_eq_false, not_false_eq_true, or_false, or_true, false_or, true_or, and_true, true_and, and_false, false_and] at h) <;> (try (simp only [*, reduceCtorEq] at h; done)) <;> (try (exfalso; omega; done)))) | (refine fun (b : Nat) => ?_))
    · refine ⟨(b, w64 (m - 1), i + 1), [], [], ?_, ?_⟩
      · simp only; omega
      · simp only [Weak, weakSl, weakHp, sameSB, eqSV, eqSC, eqL, eqS0, nils,  SV.ren, SC.ren, S0.ren, SV.ltB, SC.ltB, S0.ltB, nodupB, List.contains_nil, List.contains_cons, Bool.not_false, Bool.not_true, List.take_nil, List.range_zero, List.all_nil, List.all_cons, List.getD_cons_zero, List.getD_cons_succ, dite_true, valSV, cond_or, cond_and, implies_true, imp_self, decide_eq_true_eq, decide_eq_false_iff_not, runOps, runP, actOf, argE, argsE, bound, getE, putD, putE, putR, pruneE, owe, ret1, fit, quot, remd, binR, unR, beqR, mmR, beq_self_eq_true, pickB, fillL, setL, SV.cells, vals, subList, cellsLoad, rowLoad, loadR, storeR, faddrR, iaddrR, subR, srcL, apart0, appendR, rowLen, etOf, decs, fieldR, loOf, dstOk, allOne, S0.one, Value.oneCell', ET.enc, ET.sz, ET.dec, ET.dft, word_app, wordT_app, wordS_app, tbl_nil, tbl_cons, Int.toNat_natCast, Int.toNat_zero, Nat.reduceBEq, Nat.reduceBNe, Nat.blt, Nat.ble, cond_true, cond_false, true_and, and_true, forall_const, true_implies, decide_true, decide_false, Bool.and_true, Bool.and_false, Bool.true_and, Bool.false_and, Bool.or_false, Bool.or_true, Bool.true_or, Bool.false_or, reduceCtorEq, List.length_cons, List.length_nil, List.append_nil, List.nil_append, List.cons_append, List.getElem?_cons_zero, List.getElem?_cons_succ, List.getElem?_nil, tupSV, List.map_cons, List.map_nil, List.filterMap_cons, List.filterMap_nil, List.set_cons_zero, List.set_cons_succ, List.drop_zero, List.drop_succ_cons, List.take_succ_cons, List.take_zero, List.take_nil, List.drop_nil, Nat.reduceAdd, Nat.zero_add, Nat.add_zero, Nat.reduceMul, Nat.reduceLT, Nat.reduceLeDiff, bne_self_eq_false, bne_iff_ne, beq_self_eq_true, List.replicate, List.flatten_cons, List.flatten_nil, dite_true, dite_false]
        rfl
    refine VC.loop (T := Nat × Int) (fun x => ⟨[(1, True, valSV (.int .i64 x.2)), (4, True, valSV (.int .u32 0)), (5, True, valSV (.float .f64 x.1))], []⟩) (fun _ => True) (fun x => wayN x.2) (b, m) [] [] trivial ?_ ?_
    · simp only [Weak, weakSl, weakHp, sameSB, eqSV, eqSC, eqL, eqS0, nils,  SV.ren, SC.ren, S0.ren, SV.ltB, SC.ltB, S0.ltB, nodupB, List.contains_nil, List.contains_cons, Bool.not_false, Bool.not_true, List.take_nil, List.range_zero, List.all_nil, List.all_cons, List.getD_cons_zero, List.getD_cons_succ, dite_true, valSV, cond_or, cond_and, implies_true, imp_self, decide_eq_true_eq, decide_eq_false_iff_not, runOps, runP, actOf, argE, argsE, bound, getE, putD, putE, putR, pruneE, owe, ret1, fit, quot, remd, binR, unR, beqR, mmR, beq_self_eq_true, pickB, fillL, setL, SV.cells, vals, subList, cellsLoad, rowLoad, loadR, storeR, faddrR, iaddrR, subR, srcL, apart0, appendR, rowLen, etOf, decs, fieldR, loOf, dstOk, allOne, S0.one, Value.oneCell', ET.enc, ET.sz, ET.dec, ET.dft, word_app, wordT_app, wordS_app, tbl_nil, tbl_cons, Int.toNat_natCast, Int.toNat_zero, Nat.reduceBEq, Nat.reduceBNe, Nat.blt, Nat.ble, cond_true, cond_false, true_and, and_true, forall_const, true_implies, decide_true, decide_false, Bool.and_true, Bool.and_false, Bool.true_and, Bool.false_and, Bool.or_false, Bool.or_true, Bool.true_or, Bool.false_or, reduceCtorEq, List.length_cons, List.length_nil, List.append_nil, List.nil_append, List.cons_append, List.getElem?_cons_zero, List.getElem?_cons_succ, List.getElem?_nil, tupSV, List.map_cons, List.map_nil, List.filterMap_cons, List.filterMap_nil, List.set_cons_zero, List.set_cons_succ, List.drop_zero, List.drop_succ_cons, List.take_succ_cons, List.take_zero, List.take_nil, List.drop_nil, Nat.reduceAdd, Nat.zero_add, Nat.add_zero, Nat.reduceMul, Nat.reduceLT, Nat.reduceLeDiff, bne_self_eq_false, bne_iff_ne, beq_self_eq_true, List.replicate, List.flatten_cons, List.flatten_nil, dite_true, dite_false]
    · rintro ⟨b, m⟩ _
      simp only [valSV]
      repeat' (first | (first
    | with_reducible refine VC.seq ?_
    | with_reducible refine VC.skip ?_
    | with_reducible refine VC.block ?_
    | with_reducible refine VC.blk ?_
    | (refine VC.exit (by rfl) ?_)
    | (with_reducible refine VC.reg ?_; simp only [cond_or, cond_and, implies_true, imp_self, decide_eq_true_eq, decide_eq_false_iff_not, runOps, runP, actOf, argE, argsE, bound, getE, putD, putE, putR, pruneE, owe, ret1, fit, quot, remd, binR, unR, beqR, mmR, beq_self_eq_true, pickB, fillL, setL, SV.cells, vals, subList, cellsLoad, rowLoad, loadR, storeR, faddrR, iaddrR, subR, srcL, apart0, appendR, rowLen, etOf, decs, fieldR, loOf, dstOk, allOne, S0.one, Value.oneCell', ET.enc, ET.sz, ET.dec, ET.dft, word_app, wordT_app, wordS_app, tbl_nil, tbl_cons, Int.toNat_natCast, Int.toNat_zero, Nat.reduceBEq, Nat.reduceBNe, Nat.blt, Nat.ble, cond_true, cond_false, true_and, and_true, forall_const, true_implies, decide_true, decide_false, Bool.and_true, Bool.and_false, Bool.true_and, Bool.false_and, Bool.or_false, Bool.or_true, Bool.true_or, Bool.false_or, reduceCtorEq, List.length_cons, List.length_nil, List.append_nil, List.nil_append, List.cons_append, List.getElem?_cons_zero, List.getElem?_cons_succ, List.getElem?_nil, tupSV, List.map_cons, List.map_nil, List.filterMap_cons, List.filterMap_nil, List.set_cons_zero, List.set_cons_succ, List.drop_zero, List.drop_succ_cons, List.take_succ_cons, List.take_zero, List.take_nil, List.drop_nil, Nat.reduceAdd, Nat.zero_add, Nat.add_zero, Nat.reduceMul, Nat.reduceLT, Nat.reduceLeDiff, bne_self_eq_false, bne_iff_ne, beq_self_eq_true, List.replicate, List.flatten_cons, List.flatten_nil, dite_true, dite_false, extQ, RQ.toR, AllP, arithB])
    | (with_reducible refine VC.regD ?_; simp only [runDraw, staticB, S0.ltB, cond_or, cond_and, implies_true, imp_self, decide_eq_true_eq, decide_eq_false_iff_not, runOps, runP, actOf, argE, argsE, bound, getE, putD, putE, putR, pruneE, owe, ret1, fit, quot, remd, binR, unR, beqR, mmR, beq_self_eq_true, pickB, fillL, setL, SV.cells, vals, subList, cellsLoad, rowLoad, loadR, storeR, faddrR, iaddrR, subR, srcL, apart0, appendR, rowLen, etOf, decs, fieldR, loOf, dstOk, allOne, S0.one, Value.oneCell', ET.enc, ET.sz, ET.dec, ET.dft, word_app, wordT_app, wordS_app, tbl_nil, tbl_cons, Int.toNat_natCast, Int.toNat_zero, Nat.reduceBEq, Nat.reduceBNe, Nat.blt, Nat.ble, cond_true, cond_false, true_and, and_true, forall_const, true_implies, decide_true, decide_false, Bool.and_true, Bool.and_false, Bool.true_and, Bool.false_and, Bool.or_false, Bool.or_true, Bool.true_or, Bool.false_or, reduceCtorEq, List.length_cons, List.length_nil, List.append_nil, List.nil_append, List.cons_append, List.getElem?_cons_zero, List.getElem?_cons_succ, List.getElem?_nil, tupSV, List.map_cons, List.map_nil, List.filterMap_cons, List.filterMap_nil, List.set_cons_zero, List.set_cons_succ, List.drop_zero, List.drop_succ_cons, List.take_succ_cons, List.take_zero, List.take_nil, List.drop_nil, Nat.reduceAdd, Nat.zero_add, Nat.add_zero, Nat.reduceMul, Nat.reduceLT, Nat.reduceLeDiff, bne_self_eq_false, bne_iff_ne, beq_self_eq_true, List.replicate, List.flatten_cons, List.flatten_nil, dite_true, dite_false, extQ, RQ.toR, AllP, arithB])
    | (with_reducible refine VC.ret ?_; simp only [FinOK, resE, rvE, mkRes, cond_or, cond_and, implies_true, imp_self, decide_eq_true_eq, decide_eq_false_iff_not, runOps, runP, actOf, argE, argsE, bound, getE, putD, putE, putR, pruneE, owe, ret1, fit, quot, remd, binR, unR, beqR, mmR, beq_self_eq_true, pickB, fillL, setL, SV.cells, vals, subList, cellsLoad, rowLoad, loadR, storeR, faddrR, iaddrR, subR, srcL, apart0, appendR, rowLen, etOf, decs, fieldR, loOf, dstOk, allOne, S0.one, Value.oneCell', ET.enc, ET.sz, ET.dec, ET.dft, word_app, wordT_app, wordS_app, tbl_nil, tbl_cons, Int.toNat_natCast, Int.toNat_zero, Nat.reduceBEq, Nat.reduceBNe, Nat.blt, Nat.ble, cond_true, cond_false, true_and, and_true, forall_const, true_implies, decide_true, decide_false, Bool.and_true, Bool.and_false, Bool.true_and, Bool.false_and, Bool.or_false, Bool.or_true, Bool.true_or, Bool.false_or, reduceCtorEq, List.length_cons, List.length_nil, List.append_nil, List.nil_append, List.cons_append, List.getElem?_cons_zero, List.getElem?_cons_succ, List.getElem?_nil, tupSV, List.map_cons, List.map_nil, List.filterMap_cons, List.filterMap_nil, List.set_cons_zero, List.set_cons_succ, List.drop_zero, List.drop_succ_cons, List.take_succ_cons, List.take_zero, List.take_nil, List.drop_nil, Nat.reduceAdd, Nat.zero_add, Nat.add_zero, Nat.reduceMul, Nat.reduceLT, Nat.reduceLeDiff, bne_self_eq_false, bne_iff_ne, beq_self_eq_true, List.replicate, List.flatten_cons, List.flatten_nil, dite_true, dite_false, extQ, RQ.toR, AllP, arithB])
    | with_reducible refine VC.mid ?_
    | (refine And.intro (by first | omega | (unfold InI64; omega) | (intros; simp_all; done) | (intros; simp_all [InI64, InI32]; omega)) ?_)
    | (refine VC.condT (by rfl) (fun h => ?_) (fun h => ?_) <;> (try (cases h; done)) <;> (try simp only [decide_eq_true_eq, decide_eq_false_iff_not, Bool.and_eq_true, Bool.or_eq_true, Bool.and_eq_false_iff, Bool.or_eq_false_iff, Bool.not_eq_true', Bool.not_eq_false', not_true_eq_false, not_false_eq_true, or_false, or_true, false_or, true_or, and_true, true_and, and_false, false_and] at h) <;> (try (simp only [*, reduceCtorEq] at h; done)) <;> (try (exfalso; omega; done)))) | (refine fun (b : Nat) => ?_))
      · refine ⟨(b, w64 (m - 1)), [], [], ?_, ?_⟩
        · exact wayN_down (by assumption)
        · simp only [Weak, weakSl, weakHp, sameSB, eqSV, eqSC, eqL, eqS0, nils,  SV.ren, SC.ren, S0.ren, SV.ltB, SC.ltB, S0.ltB, nodupB, List.contains_nil, List.contains_cons, Bool.not_false, Bool.not_true, List.take_nil, List.range_zero, List.all_nil, List.all_cons, List.getD_cons_zero, List.getD_cons_succ, dite_true, valSV, cond_or, cond_and, implies_true, imp_self, decide_eq_true_eq, decide_eq_false_iff_not, runOps, runP, actOf, argE, argsE, bound, getE, putD, putE, putR, pruneE, owe, ret1, fit, quot, remd, binR, unR, beqR, mmR, beq_self_eq_true, pickB, fillL, setL, SV.cells, vals, subList, cellsLoad, rowLoad, loadR, storeR, faddrR, iaddrR, subR, srcL, apart0, appendR, rowLen, etOf, decs, fieldR, loOf, dstOk, allOne, S0.one, Value.oneCell', ET.enc, ET.sz, ET.dec, ET.dft, word_app, wordT_app, wordS_app, tbl_nil, tbl_cons, Int.toNat_natCast, Int.toNat_zero, Nat.reduceBEq, Nat.reduceBNe, Nat.blt, Nat.ble, cond_true, cond_false, true_and, and_true, forall_const, true_implies, decide_true, decide_false, Bool.and_true, Bool.and_false, Bool.true_and, Bool.false_and, Bool.or_false, Bool.or_true, Bool.true_or, Bool.false_or, reduceCtorEq, List.length_cons, List.length_nil, List.append_nil, List.nil_append, List.cons_append, List.getElem?_cons_zero, List.getElem?_cons_succ, List.getElem?_nil, tupSV, List.map_cons, List.map_nil, List.filterMap_cons, List.filterMap_nil, List.set_cons_zero, List.set_cons_succ, List.drop_zero, List.drop_succ_cons, List.take_succ_cons, List.take_zero, List.take_nil, List.drop_nil, Nat.reduceAdd, Nat.zero_add, Nat.add_zero, Nat.reduceMul, Nat.reduceLT, Nat.reduceLeDiff, bne_self_eq_false, bne_iff_ne, beq_self_eq_true, List.replicate, List.flatten_cons, List.flatten_nil, dite_true, dite_false]
      refine VC.loop (T := Nat × Int) (fun x => ⟨[(1, True, valSV (.int .i64 x.2)), (4, True, valSV (.int .u32 0)), (5, True, valSV (.float .f64 x.1))], []⟩) (fun _ => True) (fun x => wayN (-x.2)) (b, m) [] [] trivial ?_ ?_
      · simp only [Weak, weakSl, weakHp, sameSB, eqSV, eqSC, eqL, eqS0, nils,  SV.ren, SC.ren, S0.ren, SV.ltB, SC.ltB, S0.ltB, nodupB, List.contains_nil, List.contains_cons, Bool.not_false, Bool.not_true, List.take_nil, List.range_zero, List.all_nil, List.all_cons, List.getD_cons_zero, List.getD_cons_succ, dite_true, valSV, cond_or, cond_and, implies_true, imp_self, decide_eq_true_eq, decide_eq_false_iff_not, runOps, runP, actOf, argE, argsE, bound, getE, putD, putE, putR, pruneE, owe, ret1, fit, quot, remd, binR, unR, beqR, mmR, beq_self_eq_true, pickB, fillL, setL, SV.cells, vals, subList, cellsLoad, rowLoad, loadR, storeR, faddrR, iaddrR, subR, srcL, apart0, appendR, rowLen, etOf, decs, fieldR, loOf, dstOk, allOne, S0.one, Value.oneCell', ET.enc, ET.sz, ET.dec, ET.dft, word_app, wordT_app, wordS_app, tbl_nil, tbl_cons, Int.toNat_natCast, Int.toNat_zero, Nat.reduceBEq, Nat.reduceBNe, Nat.blt, Nat.ble, cond_true, cond_false, true_and, and_true, forall_const, true_implies, decide_true, decide_false, Bool.and_true, Bool.and_false, Bool.true_and, Bool.false_and, Bool.or_false, Bool.or_true, Bool.true_or, Bool.false_or, reduceCtorEq, List.length_cons, List.length_nil, List.append_nil, List.nil_append, List.cons_append, List.getElem?_cons_zero, List.getElem?_cons_succ, List.getElem?_nil, tupSV, List.map_cons, List.map_nil, List.filterMap_cons, List.filterMap_nil, List.set_cons_zero, List.set_cons_succ, List.drop_zero, List.drop_succ_cons, List.take_succ_cons, List.take_zero, List.take_nil, List.drop_nil, Nat.reduceAdd, Nat.zero_add, Nat.add_zero, Nat.reduceMul, Nat.reduceLT, Nat.reduceLeDiff, bne_self_eq_false, bne_iff_ne, beq_self_eq_true, List.replicate, List.flatten_cons, List.flatten_nil, dite_true, dite_false]
      · rintro ⟨b, m⟩ _
        simp only [valSV]
        repeat' (first | (first
    | with_reducible refine VC.seq ?_
    | with_reducible refine VC.skip ?_
    | with_reducible refine VC.block ?_
    | with_reducible refine VC.blk ?_
    | (refine VC.exit (by rfl) ?_)
    | (with_reducible refine VC.reg ?_; simp only [cond_or, cond_and, implies_true, imp_self, decide_eq_true_eq, decide_eq_false_iff_not, runOps, runP, actOf, argE, argsE, bound, getE, putD, putE, putR, pruneE, owe, ret1, fit, quot, remd, binR, unR, beqR, mmR, beq_self_eq_true, pickB, fillL, setL, SV.cells, vals, subList, cellsLoad, rowLoad, loadR, storeR, faddrR, iaddrR, subR, srcL, apart0, appendR, rowLen, etOf, decs, fieldR, loOf, dstOk, allOne, S0.one, Value.oneCell', ET.enc, ET.sz, ET.dec, ET.dft, word_app, wordT_app, wordS_app, tbl_nil, tbl_cons, Int.toNat_natCast, Int.toNat_zero, Nat.reduceBEq, Nat.reduceBNe, Nat.blt, Nat.ble, cond_true, cond_false, true_and, and_true, forall_const, true_implies, decide_true, decide_false, Bool.and_true, Bool.and_false, Bool.true_and, Bool.false_and, Bool.or_false, Bool.or_true, Bool.true_or, Bool.false_or, reduceCtorEq, List.length_cons, List.length_nil, List.append_nil, List.nil_append, List.cons_append, List.getElem?_cons_zero, List.getElem?_cons_succ, List.getElem?_nil, tupSV, List.map_cons, List.map_nil, List.filterMap_cons, List.filterMap_nil, List.set_cons_zero, List.set_cons_succ, List.drop_zero, List.drop_succ_cons, List.take_succ_cons, List.take_zero, List.take_nil, List.drop_nil, Nat.reduceAdd, Nat.zero_add, Nat.add_zero, Nat.reduceMul, Nat.reduceLT, Nat.reduceLeDiff, bne_self_eq_false, bne_iff_ne, beq_self_eq_true, List.replicate, List.flatten_cons, List.flatten_nil, dite_true, dite_false, extQ, RQ.toR, AllP, arithB])
    | (with_reducible refine VC.regD ?_; simp only [runDraw, staticB, S0.ltB, cond_or, cond_and, implies_true, imp_self, decide_eq_true_eq, decide_eq_false_iff_not, runOps, runP, actOf, argE, argsE, bound, getE, putD, putE, putR, pruneE, owe, ret1, fit, quot, remd, binR, unR, beqR, mmR, beq_self_eq_true, pickB, fillL, setL, SV.cells, vals, subList, cellsLoad, rowLoad, loadR, storeR, faddrR, iaddrR, subR, srcL, apart0, appendR, rowLen, etOf, decs, fieldR, loOf, dstOk, allOne, S0.one, Value.oneCell', ET.enc, ET.sz, ET.dec, ET.dft, word_app, wordT_app, wordS_app, tbl_nil, tbl_cons, Int.toNat_natCast, Int.toNat_zero, Nat.reduceBEq, Nat.reduceBNe, Nat.blt, Nat.ble, cond_true, cond_false, true_and, and_true, forall_const, true_implies, decide_true, decide_false, Bool.and_true, Bool.and_false, Bool.true_and, Bool.false_and, Bool.or_false, Bool.or_true, Bool.true_or, Bool.false_or, reduceCtorEq, List.length_cons, List.length_nil, List.append_nil, List.nil_append, List.cons_append, List.getElem?_cons_zero, List.getElem?_cons_succ, List.getElem?_nil, tupSV, List.map_cons, List.map_nil, List.filterMap_cons, List.filterMap_nil, List.set_cons_zero, List.set_cons_succ, List.drop_zero, List.drop_succ_cons, List.take_succ_cons, List.take_zero, List.take_nil, List.drop_nil, Nat.reduceAdd, Nat.zero_add, Nat.add_zero, Nat.reduceMul, Nat.reduceLT, Nat.reduceLeDiff, bne_self_eq_false, bne_iff_ne, beq_self_eq_true, List.replicate, List.flatten_cons, List.flatten_nil, dite_true, dite_false, extQ, RQ.toR, AllP, arithB])
    | (with_reducible refine VC.ret ?_; simp only [FinOK, resE, rvE, mkRes, cond_or, cond_and, implies_true, imp_self, decide_eq_true_eq, decide_eq_false_iff_not, runOps, runP, actOf, argE, argsE, bound, getE, putD, putE, putR, pruneE, owe, ret1, fit, quot, remd, binR, unR, beqR, mmR, beq_self_eq_true, pickB, fillL, setL, SV.cells, vals, subList, cellsLoad, rowLoad, loadR, storeR, faddrR, iaddrR, subR, srcL, apart0, appendR, rowLen, etOf, decs, fieldR, loOf, dstOk, allOne, S0.one, Value.oneCell', ET.enc, ET.sz, ET.dec, ET.dft, word_app, wordT_app, wordS_app, tbl_nil, tbl_cons, Int.toNat_natCast, Int.toNat_zero, Nat.reduceBEq, Nat.reduceBNe, Nat.blt, Nat.ble, cond_true, cond_false, true_and, and_true, forall_const, true_implies, decide_true, decide_false, Bool.and_true, Bool.and_false, Bool.true_and, Bool.false_and, Bool.or_false, Bool.or_true, Bool.true_or, Bool.false_or, reduceCtorEq, List.length_cons, List.length_nil, List.append_nil, List.nil_append, List.cons_append, List.getElem?_cons_zero, List.getElem?_cons_succ, List.getElem?_nil, tupSV, List.map_cons, List.map_nil, List.filterMap_cons, List.filterMap_nil, List.set_cons_zero, List.set_cons_succ, List.drop_zero, List.drop_succ_cons, List.take_succ_cons, List.take_zero, List.take_nil, List.drop_nil, Nat.reduceAdd, Nat.zero_add, Nat.add_zero, Nat.reduceMul, Nat.reduceLT, Nat.reduceLeDiff, bne_self_eq_false, bne_iff_ne, beq_self_eq_true, List.replicate, List.flatten_cons, List.flatten_nil, dite_true, dite_false, extQ, RQ.toR, AllP, arithB])
    | with_reducible refine VC.mid ?_
    | (refine And.intro (by first | omega | (unfold InI64; omega) | (intros; simp_all; done) | (intros; simp_all [InI64, InI32]; omega)) ?_)
    | (refine VC.condT (by rfl) (fun h => ?_) (fun h => ?_) <;> (try (cases h; done)) <;> (try simp only [decide_eq_true_eq, decide_eq_false_iff_not, Bool.and_eq_true, Bool.or_eq_true, Bool.and_eq_false_iff, Bool.or_eq_false_iff, Bool.not_eq_true', Bool.not_eq_false', not_true_eq_false, not_false_eq_true, or_false, or_true, false_or, true_or, and_true, true_and, and_false, false_and] at h) <;> (try (simp only [*, reduceCtorEq] at h; done)) <;> (try (exfalso; omega; done)))) | (refine fun (b : Nat) => ?_))
        · refine ⟨(b, w64 (m + 1)), [], [], ?_, ?_⟩
          · exact wayN_up (by assumption)
          · simp only [Weak, weakSl, weakHp, sameSB, eqSV, eqSC, eqL, eqS0, nils,  SV.ren, SC.ren, S0.ren, SV.ltB, SC.ltB, S0.ltB, nodupB, List.contains_nil, List.contains_cons, Bool.not_false, Bool.not_true, List.take_nil, List.range_zero, List.all_nil, List.all_cons, List.getD_cons_zero, List.getD_cons_succ, dite_true, valSV, cond_or, cond_and, implies_true, imp_self, decide_eq_true_eq, decide_eq_false_iff_not, runOps, runP, actOf, argE, argsE, bound, getE, putD, putE, putR, pruneE, owe, ret1, fit, quot, remd, binR, unR, beqR, mmR, beq_self_eq_true, pickB, fillL, setL, SV.cells, vals, subList, cellsLoad, rowLoad, loadR, storeR, faddrR, iaddrR, subR, srcL, apart0, appendR, rowLen, etOf, decs, fieldR, loOf, dstOk, allOne, S0.one, Value.oneCell', ET.enc, ET.sz, ET.dec, ET.dft, word_app, wordT_app, wordS_app, tbl_nil, tbl_cons, Int.toNat_natCast, Int.toNat_zero, Nat.reduceBEq, Nat.reduceBNe, Nat.blt, Nat.ble, cond_true, cond_false, true_and, and_true, forall_const, true_implies, decide_true, decide_false, Bool.and_true, Bool.and_false, Bool.true_and, Bool.false_and, Bool.or_false, Bool.or_true, Bool.true_or, Bool.false_or, reduceCtorEq, List.length_cons, List.length_nil, List.append_nil, List.nil_append, List.cons_append, List.getElem?_cons_zero, List.getElem?_cons_succ, List.getElem?_nil, tupSV, List.map_cons, List.map_nil, List.filterMap_cons, List.filterMap_nil, List.set_cons_zero, List.set_cons_succ, List.drop_zero, List.drop_succ_cons, List.take_succ_cons, List.take_zero, List.take_nil, List.drop_nil, Nat.reduceAdd, Nat.zero_add, Nat.add_zero, Nat.reduceMul, Nat.reduceLT, Nat.reduceLeDiff, bne_self_eq_false, bne_iff_ne, beq_self_eq_true, List.replicate, List.flatten_cons, List.flatten_nil, dite_true, dite_false]
        refine ⟨_, rfl, ?_⟩
        unfold guessP
        split <;> omega
noncomputable def decimal_guess_w : CQ := .any fun args hp => match args with
  | [.c (.o (.val (.string s))), .c (.o (.val (.int .i64 n)))] => some (.u32, guessP)
  | _ => none
theorem decimal_guess_ok : ValidQ Tryd.prog 41 decimal_guess_w := by
  refine ⟨trivial, ?_, ?_⟩
  · intro args hp p r q h
    cases h
  intro args hp k p h hl X w0 w ρ hs hf
  simp only at h
  split at h
  · rename_i s n
    simp only [Option.some.injEq, Prod.mk.injEq] at h
    obtain ⟨rfl, rfl⟩ := h
    refine (guess_walk s n w (tab_stable hs.tab hf.block fun _ _ hx => hx.elim)).mono ?_
    rintro e w' ⟨b, hb, he, hs'⟩
    obtain ⟨h1, h2⟩ := hs.past hf hs'
    exact ⟨b, hb, he, h1, h2⟩
  · cases h
end Go.Proofs.YtdibapfehdhfjaaDoor
