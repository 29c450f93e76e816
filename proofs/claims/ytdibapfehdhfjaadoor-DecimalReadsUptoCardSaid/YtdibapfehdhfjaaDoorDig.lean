/-
  signetref2.digit, many: what they compute.
-/
import Derived.Test.YtdibapfehdhfjaaDoorEngX
import Derived.Test.YtdibapfehdhfjaaDoorEngZ
import Derived.Test.YtdibapfehdhfjaaDoorProg
namespace Go.Proofs.YtdibapfehdhfjaaDoor
open Go.Eng
set_option linter.unusedVariables false
set_option linter.unusedSimpArgs false

theorem bAt_in {s : ByteArray} {k : Nat} (h : k < s.size) : bAt s k = (s[k].toNat : Int) := by
  simp [bAt, h]
theorem bAt_range (s : ByteArray) (i : Int) : -1 ≤ bAt s i ∧ bAt s i ≤ 255 := by
  unfold bAt
  split
  · split
    · rename_i b _
      have := b.toNat_lt
      omega
    · omega
  · omega
theorem lt_of_bAt {s : ByteArray} {i : Int} (h : 0 ≤ bAt s i) : 0 ≤ i ∧ i < s.size := by
  unfold bAt at h
  split at h
  · split at h
    · rename_i h0 b hb
      have : i.toNat < s.size := by
        rcases Nat.lt_or_ge i.toNat s.size with h' | h'
        · exact h'
        · rw [getElem?_neg s i.toNat (Nat.not_lt.2 h')] at hb
          cases hb
      omega
    · omega
  · omega
theorem bAt_out {s : ByteArray} {i : Int} (h : ¬ i < s.size) : bAt s i = -1 := by
  have := (bAt_range s i).1
  rcases Int.lt_or_le (bAt s i) 0 with h' | h'
  · omega
  · exact (h (lt_of_bAt h').2).elim
theorem bAt_nn {s : ByteArray} {i : Int} (h0 : 0 ≤ i) (h : i < s.size) : 0 ≤ bAt s i := by
  have h1 : i.toNat < s.size := by omega
  have := bAt_in h1
  rw [Int.toNat_of_nonneg h0] at this
  rw [this]
  omega
/-- A digit. -/
def digS (s : ByteArray) (i : Int) : Bool := decide (48 ≤ bAt s i) && decide (bAt s i ≤ 57)
theorem digS_lt {s : ByteArray} {i : Int} (h : digS s i = true) : i < s.size := by simp only [digS, Bool.and_eq_true, decide_eq_true_eq] at h; exact (lt_of_bAt (by omega)).2
/-- The place behind all digits from a place on. -/
def manyS (s : ByteArray) (i : Nat) : Nat := if h : digS s i = true then manyS s (i + 1) else i
  termination_by s.size - i
  decreasing_by have := digS_lt h; omega
theorem manyS_yes {s : ByteArray} {i : Nat} (h : digS s i = true) : manyS s i = manyS s (i + 1) := by rw [manyS, dif_pos h]
theorem manyS_no {s : ByteArray} {i : Nat} (h : digS s i = false) : manyS s i = i := by rw [manyS, dif_neg (by simp [h])]
theorem manyS_ge (s : ByteArray) (k : Nat) : k ≤ manyS s k := by
  by_cases h : digS s k = true
  · rw [manyS_yes h]
    have := manyS_ge s (k + 1)
    omega
  · rw [manyS_no (by simpa using h)]
    exact Nat.le_refl _
termination_by s.size - k
decreasing_by have := digS_lt h; omega
theorem manyS_le (s : ByteArray) (k : Nat) (hk : k ≤ s.size) : manyS s k ≤ s.size := by
  by_cases h : digS s k = true
  · rw [manyS_yes h]
    exact manyS_le s (k + 1) (by have := digS_lt h; omega)
  · rw [manyS_no (by simpa using h)]
    exact hk
termination_by s.size - k
decreasing_by have := digS_lt h; omega

def digit_ic : IC :=
  (.seq
  (.reg 4 none [
    ⟨(some 4), .mv (.v (.bool false)), none⟩])
  (.seq
  (.reg 4 none [
    ⟨(some 5), .mv (.t 1), none⟩,
    ⟨(some 6), .mv (.t 0), none⟩,
    ⟨(some 7), .lenS (.t 6), none⟩,
    ⟨(some 8), .bin false .lss (.t 5) (.t 7), none⟩,
    ⟨(some 9), .mv (.t 8), none⟩,
    ⟨(some 10), .mv (.t 0), some (9, true)⟩,
    ⟨(some 11), .mv (.t 1), some (9, true)⟩,
    ⟨(some 12), .index (.t 10) (.t 11), some (9, true)⟩,
    ⟨(some 13), .bin false .geq (.t 12) (.v (.int .u8 48)), some (9, true)⟩,
    ⟨(some 14), .pick (.t 9) (.t 13) (.v (.bool false)), none⟩,
    ⟨(some 15), .mv (.t 14), none⟩,
    ⟨(some 16), .mv (.t 0), some (15, true)⟩,
    ⟨(some 17), .mv (.t 1), some (15, true)⟩,
    ⟨(some 18), .index (.t 16) (.t 17), some (15, true)⟩,
    ⟨(some 19), .bin false .leq (.t 18) (.v (.int .u8 57)), some (15, true)⟩,
    ⟨(some 20), .pick (.t 15) (.t 19) (.v (.bool false)), none⟩,
    ⟨(some 4), .mv (.t 20), none⟩])
  .ret))
theorem digit_chk : chk Tryd.prog 71 [] = some (digit_ic, [.tmp 4], 21) := by kernel_rfl
def digit_w : List Value → Option (Prop × Value)
  | [.string s, .int .i64 i] => some (0 ≤ i, .bool (digS s i))
  | _ => none
theorem digit_ok : Valid Tryd.prog 71 (word digit_w) := by
  refine Valid.word fun vs p r hg hp w => ?_
  unfold digit_w at hg
  split at hg <;> cases hg
  rename_i s i
  refine walk0 digit_chk 5 (fun _ => none) (fun f C h => by cases h) _ _ (Nat.le_of_ble_eq_true rfl) w ?_
  simp only [digit_ic, List.map_cons, List.map_nil, valSV, argSl]
  repeat' (first
    | with_reducible refine VC.seq ?_
    | with_reducible refine VC.skip ?_
    | with_reducible refine VC.block ?_
    | with_reducible refine VC.blk ?_
    | (refine VC.exit (by rfl) ?_)
    | (with_reducible refine VC.reg ?_; simp only [cond_or, cond_and, implies_true, imp_self, decide_eq_true_eq, decide_eq_false_iff_not, runOps, runP, actOf, argE, argsE, bound, getE, putD, putE, putR, pruneE, owe, ret1, fit, quot, remd, binR, unR, beqR, beq_self_eq_true, pickB, fillL, setL, SV.cells, vals, subList, cellsLoad, rowLoad, loadR, storeR, faddrR, iaddrR, subR, srcL, apart0, appendR, rowLen, etOf, decs, fieldR, loOf, dstOk, allOne, S0.one, Value.oneCell', ET.enc, ET.sz, ET.dec, ET.dft, word_app, wordT_app, wordS_app, tbl_nil, tbl_cons, Int.toNat_natCast, Int.toNat_zero, Nat.reduceBEq, Nat.reduceBNe, Nat.blt, Nat.ble, cond_true, cond_false, true_and, and_true, forall_const, true_implies, decide_true, decide_false, Bool.and_true, Bool.and_false, Bool.true_and, Bool.false_and, Bool.or_false, Bool.or_true, Bool.true_or, Bool.false_or, reduceCtorEq, List.length_cons, List.length_nil, List.append_nil, List.nil_append, List.cons_append, List.getElem?_cons_zero, List.getElem?_cons_succ, List.getElem?_nil, tupSV, List.map_cons, List.map_nil, List.filterMap_cons, List.filterMap_nil, List.set_cons_zero, List.set_cons_succ, List.drop_zero, List.drop_succ_cons, List.take_succ_cons, List.take_zero, List.take_nil, List.drop_nil, Nat.reduceAdd, Nat.zero_add, Nat.add_zero, Nat.reduceMul, Nat.reduceLT, Nat.reduceLeDiff, bne_self_eq_false, bne_iff_ne, beq_self_eq_true, List.replicate, List.flatten_cons, List.flatten_nil, dite_true, dite_false])
    | (with_reducible refine VC.regD ?_; simp only [runDraw, staticB, S0.ltB, cond_or, cond_and, implies_true, imp_self, decide_eq_true_eq, decide_eq_false_iff_not, runOps, runP, actOf, argE, argsE, bound, getE, putD, putE, putR, pruneE, owe, ret1, fit, quot, remd, binR, unR, beqR, beq_self_eq_true, pickB, fillL, setL, SV.cells, vals, subList, cellsLoad, rowLoad, loadR, storeR, faddrR, iaddrR, subR, srcL, apart0, appendR, rowLen, etOf, decs, fieldR, loOf, dstOk, allOne, S0.one, Value.oneCell', ET.enc, ET.sz, ET.dec, ET.dft, word_app, wordT_app, wordS_app, tbl_nil, tbl_cons, Int.toNat_natCast, Int.toNat_zero, Nat.reduceBEq, Nat.reduceBNe, Nat.blt, Nat.ble, cond_true, cond_false, true_and, and_true, forall_const, true_implies, decide_true, decide_false, Bool.and_true, Bool.and_false, Bool.true_and, Bool.false_and, Bool.or_false, Bool.or_true, Bool.true_or, Bool.false_or, reduceCtorEq, List.length_cons, List.length_nil, List.append_nil, List.nil_append, List.cons_append, List.getElem?_cons_zero, List.getElem?_cons_succ, List.getElem?_nil, tupSV, List.map_cons, List.map_nil, List.filterMap_cons, List.filterMap_nil, List.set_cons_zero, List.set_cons_succ, List.drop_zero, List.drop_succ_cons, List.take_succ_cons, List.take_zero, List.take_nil, List.drop_nil, Nat.reduceAdd, Nat.zero_add, Nat.add_zero, Nat.reduceMul, Nat.reduceLT, Nat.reduceLeDiff, bne_self_eq_false, bne_iff_ne, beq_self_eq_true, List.replicate, List.flatten_cons, List.flatten_nil, dite_true, dite_false])
    | (with_reducible refine VC.ret ?_; simp only [FinOK, resE, rvE, mkRes, cond_or, cond_and, implies_true, imp_self, decide_eq_true_eq, decide_eq_false_iff_not, runOps, runP, actOf, argE, argsE, bound, getE, putD, putE, putR, pruneE, owe, ret1, fit, quot, remd, binR, unR, beqR, beq_self_eq_true, pickB, fillL, setL, SV.cells, vals, subList, cellsLoad, rowLoad, loadR, storeR, faddrR, iaddrR, subR, srcL, apart0, appendR, rowLen, etOf, decs, fieldR, loOf, dstOk, allOne, S0.one, Value.oneCell', ET.enc, ET.sz, ET.dec, ET.dft, word_app, wordT_app, wordS_app, tbl_nil, tbl_cons, Int.toNat_natCast, Int.toNat_zero, Nat.reduceBEq, Nat.reduceBNe, Nat.blt, Nat.ble, cond_true, cond_false, true_and, and_true, forall_const, true_implies, decide_true, decide_false, Bool.and_true, Bool.and_false, Bool.true_and, Bool.false_and, Bool.or_false, Bool.or_true, Bool.true_or, Bool.false_or, reduceCtorEq, List.length_cons, List.length_nil, List.append_nil, List.nil_append, List.cons_append, List.getElem?_cons_zero, List.getElem?_cons_succ, List.getElem?_nil, tupSV, List.map_cons, List.map_nil, List.filterMap_cons, List.filterMap_nil, List.set_cons_zero, List.set_cons_succ, List.drop_zero, List.drop_succ_cons, List.take_succ_cons, List.take_zero, List.take_nil, List.drop_nil, Nat.reduceAdd, Nat.zero_add, Nat.add_zero, Nat.reduceMul, Nat.reduceLT, Nat.reduceLeDiff, bne_self_eq_false, bne_iff_ne, beq_self_eq_true, List.replicate, List.flatten_cons, List.flatten_nil, dite_true, dite_false])
    | with_reducible refine VC.mid ?_
    | (refine And.intro (by first | omega | (unfold InI64; omega) | (intros; simp_all; done) | (intros; simp_all [InI64, InI32]; omega)) ?_)
    | (refine VC.condT (by rfl) (fun h => ?_) (fun h => ?_) <;> (try (cases h; done)) <;> (try simp only [decide_eq_true_eq, decide_eq_false_iff_not, Bool.and_eq_true, Bool.or_eq_true, Bool.and_eq_false_iff, Bool.or_eq_false_iff, Bool.not_eq_true', Bool.not_eq_false', not_true_eq_false, not_false_eq_true, or_false, or_true, false_or, true_or, and_true, true_and, and_false, false_and] at h) <;> (try (simp only [*, reduceCtorEq] at h; done)) <;> (try (exfalso; omega; done))))
  have e : (decide (i < s.size) && decide (48 ≤ bAt s i) && decide (bAt s i ≤ 57)) = digS s i := by
    by_cases hi : i < s.size
    · simp [digS, hi]
    · simp [digS, hi, bAt_out hi]
  rw [e]

def many_ic : IC :=
  (.seq
  (.reg 4 none [
    ⟨(some 4), .mv (.v (.int .i64 0)), none⟩])
  (.seq
  (.block 0
    (.loop
      (.seq
      (.seq
      (.reg 7 none [
        ⟨(some 5), .mv (.t 0), none⟩,
        ⟨(some 6), .mv (.t 1), none⟩,
        ⟨(some 7), .call 71 [(.t 5), (.t 6)], none⟩])
      (.cond (.t 7)
        .skip
        (.exit 0)))
      (.block 1
        (.reg 1 none [
          ⟨(some 8), .mv (.t 1), none⟩,
          ⟨(some 9), .bin false .add (.t 8) (.v (.int .i64 1)), none⟩,
          ⟨(some 1), .mv (.t 9), none⟩])))))
  (.seq
  (.reg 4 none [
    ⟨(some 10), .mv (.t 1), none⟩,
    ⟨(some 4), .mv (.t 10), none⟩])
  .ret)))
theorem many_chk : chk Tryd.prog 53 [] = some (many_ic, [.tmp 4], 11) := by kernel_rfl
def many_w : List Value → Option (Prop × Value)
  | [.string s, .int .i64 i] => some (0 ≤ i ∧ s.size < 9223372036854775807, .int .i64 (manyS s i.toNat))
  | _ => none
theorem many_ok : Valid Tryd.prog 53 (word many_w) := by
  refine Valid.word fun vs p r hg hp w => ?_
  unfold many_w at hg
  split at hg <;> cases hg
  rename_i s i
  refine walk0 many_chk 5 (tbl [(71, word digit_w)]) (tbl_valid ⟨digit_ok, trivial⟩) _ _ (Nat.le_of_ble_eq_true rfl) w ?_
  simp only [many_ic, List.map_cons, List.map_nil, valSV, argSl]
  repeat' (first
    | with_reducible refine VC.seq ?_
    | with_reducible refine VC.skip ?_
    | with_reducible refine VC.block ?_
    | with_reducible refine VC.blk ?_
    | (refine VC.exit (by rfl) ?_)
    | (with_reducible refine VC.reg ?_; simp only [cond_or, cond_and, implies_true, imp_self, decide_eq_true_eq, decide_eq_false_iff_not, runOps, runP, actOf, argE, argsE, bound, getE, putD, putE, putR, pruneE, owe, ret1, fit, quot, remd, binR, unR, beqR, beq_self_eq_true, pickB, fillL, setL, SV.cells, vals, subList, cellsLoad, rowLoad, loadR, storeR, faddrR, iaddrR, subR, srcL, apart0, appendR, rowLen, etOf, decs, fieldR, loOf, dstOk, allOne, S0.one, Value.oneCell', ET.enc, ET.sz, ET.dec, ET.dft, word_app, wordT_app, wordS_app, tbl_nil, tbl_cons, Int.toNat_natCast, Int.toNat_zero, Nat.reduceBEq, Nat.reduceBNe, Nat.blt, Nat.ble, cond_true, cond_false, true_and, and_true, forall_const, true_implies, decide_true, decide_false, Bool.and_true, Bool.and_false, Bool.true_and, Bool.false_and, Bool.or_false, Bool.or_true, Bool.true_or, Bool.false_or, reduceCtorEq, List.length_cons, List.length_nil, List.append_nil, List.nil_append, List.cons_append, List.getElem?_cons_zero, List.getElem?_cons_succ, List.getElem?_nil, tupSV, List.map_cons, List.map_nil, List.filterMap_cons, List.filterMap_nil, List.set_cons_zero, List.set_cons_succ, List.drop_zero, List.drop_succ_cons, List.take_succ_cons, List.take_zero, List.take_nil, List.drop_nil, Nat.reduceAdd, Nat.zero_add, Nat.add_zero, Nat.reduceMul, Nat.reduceLT, Nat.reduceLeDiff, bne_self_eq_false, bne_iff_ne, beq_self_eq_true, List.replicate, List.flatten_cons, List.flatten_nil, dite_true, dite_false])
    | (with_reducible refine VC.regD ?_; simp only [runDraw, staticB, S0.ltB, cond_or, cond_and, implies_true, imp_self, decide_eq_true_eq, decide_eq_false_iff_not, runOps, runP, actOf, argE, argsE, bound, getE, putD, putE, putR, pruneE, owe, ret1, fit, quot, remd, binR, unR, beqR, beq_self_eq_true, pickB, fillL, setL, SV.cells, vals, subList, cellsLoad, rowLoad, loadR, storeR, faddrR, iaddrR, subR, srcL, apart0, appendR, rowLen, etOf, decs, fieldR, loOf, dstOk, allOne, S0.one, Value.oneCell', ET.enc, ET.sz, ET.dec, ET.dft, word_app, wordT_app, wordS_app, tbl_nil, tbl_cons, Int.toNat_natCast, Int.toNat_zero, Nat.reduceBEq, Nat.reduceBNe, Nat.blt, Nat.ble, cond_true, cond_false, true_and, and_true, forall_const, true_implies, decide_true, decide_false, Bool.and_true, Bool.and_false, Bool.true_and, Bool.false_and, Bool.or_false, Bool.or_true, Bool.true_or, Bool.false_or, reduceCtorEq, List.length_cons, List.length_nil, List.append_nil, List.nil_append, List.cons_append, List.getElem?_cons_zero, List.getElem?_cons_succ, List.getElem?_nil, tupSV, List.map_cons, List.map_nil, List.filterMap_cons, List.filterMap_nil, List.set_cons_zero, List.set_cons_succ, List.drop_zero, List.drop_succ_cons, List.take_succ_cons, List.take_zero, List.take_nil, List.drop_nil, Nat.reduceAdd, Nat.zero_add, Nat.add_zero, Nat.reduceMul, Nat.reduceLT, Nat.reduceLeDiff, bne_self_eq_false, bne_iff_ne, beq_self_eq_true, List.replicate, List.flatten_cons, List.flatten_nil, dite_true, dite_false])
    | (with_reducible refine VC.ret ?_; simp only [FinOK, resE, rvE, mkRes, cond_or, cond_and, implies_true, imp_self, decide_eq_true_eq, decide_eq_false_iff_not, runOps, runP, actOf, argE, argsE, bound, getE, putD, putE, putR, pruneE, owe, ret1, fit, quot, remd, binR, unR, beqR, beq_self_eq_true, pickB, fillL, setL, SV.cells, vals, subList, cellsLoad, rowLoad, loadR, storeR, faddrR, iaddrR, subR, srcL, apart0, appendR, rowLen, etOf, decs, fieldR, loOf, dstOk, allOne, S0.one, Value.oneCell', ET.enc, ET.sz, ET.dec, ET.dft, word_app, wordT_app, wordS_app, tbl_nil, tbl_cons, Int.toNat_natCast, Int.toNat_zero, Nat.reduceBEq, Nat.reduceBNe, Nat.blt, Nat.ble, cond_true, cond_false, true_and, and_true, forall_const, true_implies, decide_true, decide_false, Bool.and_true, Bool.and_false, Bool.true_and, Bool.false_and, Bool.or_false, Bool.or_true, Bool.true_or, Bool.false_or, reduceCtorEq, List.length_cons, List.length_nil, List.append_nil, List.nil_append, List.cons_append, List.getElem?_cons_zero, List.getElem?_cons_succ, List.getElem?_nil, tupSV, List.map_cons, List.map_nil, List.filterMap_cons, List.filterMap_nil, List.set_cons_zero, List.set_cons_succ, List.drop_zero, List.drop_succ_cons, List.take_succ_cons, List.take_zero, List.take_nil, List.drop_nil, Nat.reduceAdd, Nat.zero_add, Nat.add_zero, Nat.reduceMul, Nat.reduceLT, Nat.reduceLeDiff, bne_self_eq_false, bne_iff_ne, beq_self_eq_true, List.replicate, List.flatten_cons, List.flatten_nil, dite_true, dite_false])
    | with_reducible refine VC.mid ?_
    | (refine And.intro (by first | omega | (unfold InI64; omega) | (intros; simp_all; done) | (intros; simp_all [InI64, InI32]; omega)) ?_)
    | (refine VC.condT (by rfl) (fun h => ?_) (fun h => ?_) <;> (try (cases h; done)) <;> (try simp only [decide_eq_true_eq, decide_eq_false_iff_not, Bool.and_eq_true, Bool.or_eq_true, Bool.and_eq_false_iff, Bool.or_eq_false_iff, Bool.not_eq_true', Bool.not_eq_false', not_true_eq_false, not_false_eq_true, or_false, or_true, false_or, true_or, and_true, true_and, and_false, false_and] at h) <;> (try (simp only [*, reduceCtorEq] at h; done)) <;> (try (exfalso; omega; done))))
  refine VC.loop (fun k : Nat => ⟨[(0, True, valSV (.string s)), (1, True, valSV (.int .i64 k)), (4, True, valSV (.int .i64 0))], []⟩) (fun k => manyS s k = manyS s i.toNat) (fun k => s.size - k) i.toNat [] [] rfl ?_ ?_
  · simp only [Weak, weakSl, weakHp, sameSB, eqSV, eqSC, eqL, eqS0, nils,  SV.ren, SC.ren, S0.ren, SV.ltB, SC.ltB, S0.ltB, nodupB, List.contains_nil, List.contains_cons, Bool.not_false, Bool.not_true, List.take_nil, List.range_zero, List.all_nil, List.all_cons, List.getD_cons_zero, List.getD_cons_succ, dite_true, valSV, cond_or, cond_and, implies_true, imp_self, decide_eq_true_eq, decide_eq_false_iff_not, runOps, runP, actOf, argE, argsE, bound, getE, putD, putE, putR, pruneE, owe, ret1, fit, quot, remd, binR, unR, beqR, beq_self_eq_true, pickB, fillL, setL, SV.cells, vals, subList, cellsLoad, rowLoad, loadR, storeR, faddrR, iaddrR, subR, srcL, apart0, appendR, rowLen, etOf, decs, fieldR, loOf, dstOk, allOne, S0.one, Value.oneCell', ET.enc, ET.sz, ET.dec, ET.dft, word_app, wordT_app, wordS_app, tbl_nil, tbl_cons, Int.toNat_natCast, Int.toNat_zero, Nat.reduceBEq, Nat.reduceBNe, Nat.blt, Nat.ble, cond_true, cond_false, true_and, and_true, forall_const, true_implies, decide_true, decide_false, Bool.and_true, Bool.and_false, Bool.true_and, Bool.false_and, Bool.or_false, Bool.or_true, Bool.true_or, Bool.false_or, reduceCtorEq, List.length_cons, List.length_nil, List.append_nil, List.nil_append, List.cons_append, List.getElem?_cons_zero, List.getElem?_cons_succ, List.getElem?_nil, tupSV, List.map_cons, List.map_nil, List.filterMap_cons, List.filterMap_nil, List.set_cons_zero, List.set_cons_succ, List.drop_zero, List.drop_succ_cons, List.take_succ_cons, List.take_zero, List.take_nil, List.drop_nil, Nat.reduceAdd, Nat.zero_add, Nat.add_zero, Nat.reduceMul, Nat.reduceLT, Nat.reduceLeDiff, bne_self_eq_false, bne_iff_ne, beq_self_eq_true, List.replicate, List.flatten_cons, List.flatten_nil, dite_true, dite_false]
    rw [Int.toNat_of_nonneg hp.1]
  · intro k hk
    simp only [valSV]
    cases hd : digS s k
    · repeat' (first
    | with_reducible refine VC.seq ?_
    | with_reducible refine VC.skip ?_
    | with_reducible refine VC.block ?_
    | with_reducible refine VC.blk ?_
    | (refine VC.exit (by rfl) ?_)
    | (with_reducible refine VC.reg ?_; simp only [cond_or, cond_and, implies_true, imp_self, decide_eq_true_eq, decide_eq_false_iff_not, runOps, runP, actOf, argE, argsE, bound, getE, putD, putE, putR, pruneE, owe, ret1, fit, quot, remd, binR, unR, beqR, beq_self_eq_true, pickB, fillL, setL, SV.cells, vals, subList, cellsLoad, rowLoad, loadR, storeR, faddrR, iaddrR, subR, srcL, apart0, appendR, rowLen, etOf, decs, fieldR, loOf, dstOk, allOne, S0.one, Value.oneCell', ET.enc, ET.sz, ET.dec, ET.dft, word_app, wordT_app, wordS_app, tbl_nil, tbl_cons, Int.toNat_natCast, Int.toNat_zero, Nat.reduceBEq, Nat.reduceBNe, Nat.blt, Nat.ble, cond_true, cond_false, true_and, and_true, forall_const, true_implies, decide_true, decide_false, Bool.and_true, Bool.and_false, Bool.true_and, Bool.false_and, Bool.or_false, Bool.or_true, Bool.true_or, Bool.false_or, reduceCtorEq, List.length_cons, List.length_nil, List.append_nil, List.nil_append, List.cons_append, List.getElem?_cons_zero, List.getElem?_cons_succ, List.getElem?_nil, tupSV, List.map_cons, List.map_nil, List.filterMap_cons, List.filterMap_nil, List.set_cons_zero, List.set_cons_succ, List.drop_zero, List.drop_succ_cons, List.take_succ_cons, List.take_zero, List.take_nil, List.drop_nil, Nat.reduceAdd, Nat.zero_add, Nat.add_zero, Nat.reduceMul, Nat.reduceLT, Nat.reduceLeDiff, bne_self_eq_false, bne_iff_ne, beq_self_eq_true, List.replicate, List.flatten_cons, List.flatten_nil, dite_true, dite_false])
    | (with_reducible refine VC.regD ?_; simp only [runDraw, staticB, S0.ltB, cond_or, cond_and, implies_true, imp_self, decide_eq_true_eq, decide_eq_false_iff_not, runOps, runP, actOf, argE, argsE, bound, getE, putD, putE, putR, pruneE, owe, ret1, fit, quot, remd, binR, unR, beqR, beq_self_eq_true, pickB, fillL, setL, SV.cells, vals, subList, cellsLoad, rowLoad, loadR, storeR, faddrR, iaddrR, subR, srcL, apart0, appendR, rowLen, etOf, decs, fieldR, loOf, dstOk, allOne, S0.one, Value.oneCell', ET.enc, ET.sz, ET.dec, ET.dft, word_app, wordT_app, wordS_app, tbl_nil, tbl_cons, Int.toNat_natCast, Int.toNat_zero, Nat.reduceBEq, Nat.reduceBNe, Nat.blt, Nat.ble, cond_true, cond_false, true_and, and_true, forall_const, true_implies, decide_true, decide_false, Bool.and_true, Bool.and_false, Bool.true_and, Bool.false_and, Bool.or_false, Bool.or_true, Bool.true_or, Bool.false_or, reduceCtorEq, List.length_cons, List.length_nil, List.append_nil, List.nil_append, List.cons_append, List.getElem?_cons_zero, List.getElem?_cons_succ, List.getElem?_nil, tupSV, List.map_cons, List.map_nil, List.filterMap_cons, List.filterMap_nil, List.set_cons_zero, List.set_cons_succ, List.drop_zero, List.drop_succ_cons, List.take_succ_cons, List.take_zero, List.take_nil, List.drop_nil, Nat.reduceAdd, Nat.zero_add, Nat.add_zero, Nat.reduceMul, Nat.reduceLT, Nat.reduceLeDiff, bne_self_eq_false, bne_iff_ne, beq_self_eq_true, List.replicate, List.flatten_cons, List.flatten_nil, dite_true, dite_false])
    | (with_reducible refine VC.ret ?_; simp only [FinOK, resE, rvE, mkRes, cond_or, cond_and, implies_true, imp_self, decide_eq_true_eq, decide_eq_false_iff_not, runOps, runP, actOf, argE, argsE, bound, getE, putD, putE, putR, pruneE, owe, ret1, fit, quot, remd, binR, unR, beqR, beq_self_eq_true, pickB, fillL, setL, SV.cells, vals, subList, cellsLoad, rowLoad, loadR, storeR, faddrR, iaddrR, subR, srcL, apart0, appendR, rowLen, etOf, decs, fieldR, loOf, dstOk, allOne, S0.one, Value.oneCell', ET.enc, ET.sz, ET.dec, ET.dft, word_app, wordT_app, wordS_app, tbl_nil, tbl_cons, Int.toNat_natCast, Int.toNat_zero, Nat.reduceBEq, Nat.reduceBNe, Nat.blt, Nat.ble, cond_true, cond_false, true_and, and_true, forall_const, true_implies, decide_true, decide_false, Bool.and_true, Bool.and_false, Bool.true_and, Bool.false_and, Bool.or_false, Bool.or_true, Bool.true_or, Bool.false_or, reduceCtorEq, List.length_cons, List.length_nil, List.append_nil, List.nil_append, List.cons_append, List.getElem?_cons_zero, List.getElem?_cons_succ, List.getElem?_nil, tupSV, List.map_cons, List.map_nil, List.filterMap_cons, List.filterMap_nil, List.set_cons_zero, List.set_cons_succ, List.drop_zero, List.drop_succ_cons, List.take_succ_cons, List.take_zero, List.take_nil, List.drop_nil, Nat.reduceAdd, Nat.zero_add, Nat.add_zero, Nat.reduceMul, Nat.reduceLT, Nat.reduceLeDiff, bne_self_eq_false, bne_iff_ne, beq_self_eq_true, List.replicate, List.flatten_cons, List.flatten_nil, dite_true, dite_false])
    | with_reducible refine VC.mid ?_
    | (refine And.intro (by first | omega | (unfold InI64; omega) | (intros; simp_all; done) | (intros; simp_all [InI64, InI32]; omega)) ?_)
    | (refine VC.condT (by rfl) (fun h => ?_) (fun h => ?_) <;> (try (cases h; done)) <;> (try simp only [decide_eq_true_eq, decide_eq_false_iff_not, Bool.and_eq_true, Bool.or_eq_true, Bool.and_eq_false_iff, Bool.or_eq_false_iff, Bool.not_eq_true', Bool.not_eq_false', not_true_eq_false, not_false_eq_true, or_false, or_true, false_or, true_or, and_true, true_and, and_false, false_and] at h) <;> (try (simp only [*, reduceCtorEq] at h; done)) <;> (try (exfalso; omega; done))))
      rw [← hk, manyS_no hd]
    · have := digS_lt hd
      repeat' (first
    | with_reducible refine VC.seq ?_
    | with_reducible refine VC.skip ?_
    | with_reducible refine VC.block ?_
    | with_reducible refine VC.blk ?_
    | (refine VC.exit (by rfl) ?_)
    | (with_reducible refine VC.reg ?_; simp only [cond_or, cond_and, implies_true, imp_self, decide_eq_true_eq, decide_eq_false_iff_not, runOps, runP, actOf, argE, argsE, bound, getE, putD, putE, putR, pruneE, owe, ret1, fit, quot, remd, binR, unR, beqR, beq_self_eq_true, pickB, fillL, setL, SV.cells, vals, subList, cellsLoad, rowLoad, loadR, storeR, faddrR, iaddrR, subR, srcL, apart0, appendR, rowLen, etOf, decs, fieldR, loOf, dstOk, allOne, S0.one, Value.oneCell', ET.enc, ET.sz, ET.dec, ET.dft, word_app, wordT_app, wordS_app, tbl_nil, tbl_cons, Int.toNat_natCast, Int.toNat_zero, Nat.reduceBEq, Nat.reduceBNe, Nat.blt, Nat.ble, cond_true, cond_false, true_and, and_true, forall_const, true_implies, decide_true, decide_false, Bool.and_true, Bool.and_false, Bool.true_and, Bool.false_and, Bool.or_false, Bool.or_true, Bool.true_or, Bool.false_or, reduceCtorEq, List.length_cons, List.length_nil, List.append_nil, List.nil_append, List.cons_append, List.getElem?_cons_zero, List.getElem?_cons_succ, List.getElem?_nil, tupSV, List.map_cons, List.map_nil, List.filterMap_cons, List.filterMap_nil, List.set_cons_zero, List.set_cons_succ, List.drop_zero, List.drop_succ_cons, List.take_succ_cons, List.take_zero, List.take_nil, List.drop_nil, Nat.reduceAdd, Nat.zero_add, Nat.add_zero, Nat.reduceMul, Nat.reduceLT, Nat.reduceLeDiff, bne_self_eq_false, bne_iff_ne, beq_self_eq_true, List.replicate, List.flatten_cons, List.flatten_nil, dite_true, dite_false])
    | (with_reducible refine VC.regD ?_; simp only [runDraw, staticB, S0.ltB, cond_or, cond_and, implies_true, imp_self, decide_eq_true_eq, decide_eq_false_iff_not, runOps, runP, actOf, argE, argsE, bound, getE, putD, putE, putR, pruneE, owe, ret1, fit, quot, remd, binR, unR, beqR, beq_self_eq_true, pickB, fillL, setL, SV.cells, vals, subList, cellsLoad, rowLoad, loadR, storeR, faddrR, iaddrR, subR, srcL, apart0, appendR, rowLen, etOf, decs, fieldR, loOf, dstOk, allOne, S0.one, Value.oneCell', ET.enc, ET.sz, ET.dec, ET.dft, word_app, wordT_app, wordS_app, tbl_nil, tbl_cons, Int.toNat_natCast, Int.toNat_zero, Nat.reduceBEq, Nat.reduceBNe, Nat.blt, Nat.ble, cond_true, cond_false, true_and, and_true, forall_const, true_implies, decide_true, decide_false, Bool.and_true, Bool.and_false, Bool.true_and, Bool.false_and, Bool.or_false, Bool.or_true, Bool.true_or, Bool.false_or, reduceCtorEq, List.length_cons, List.length_nil, List.append_nil, List.nil_append, List.cons_append, List.getElem?_cons_zero, List.getElem?_cons_succ, List.getElem?_nil, tupSV, List.map_cons, List.map_nil, List.filterMap_cons, List.filterMap_nil, List.set_cons_zero, List.set_cons_succ, List.drop_zero, List.drop_succ_cons, List.take_succ_cons, List.take_zero, List.take_nil, List.drop_nil, Nat.reduceAdd, Nat.zero_add, Nat.add_zero, Nat.reduceMul, Nat.reduceLT, Nat.reduceLeDiff, bne_self_eq_false, bne_iff_ne, beq_self_eq_true, List.replicate, List.flatten_cons, List.flatten_nil, dite_true, dite_false])
    | (with_reducible refine VC.ret ?_; simp only [FinOK, resE, rvE, mkRes, cond_or, cond_and, implies_true, imp_self, decide_eq_true_eq, decide_eq_false_iff_not, runOps, runP, actOf, argE, argsE, bound, getE, putD, putE, putR, pruneE, owe, ret1, fit, quot, remd, binR, unR, beqR, beq_self_eq_true, pickB, fillL, setL, SV.cells, vals, subList, cellsLoad, rowLoad, loadR, storeR, faddrR, iaddrR, subR, srcL, apart0, appendR, rowLen, etOf, decs, fieldR, loOf, dstOk, allOne, S0.one, Value.oneCell', ET.enc, ET.sz, ET.dec, ET.dft, word_app, wordT_app, wordS_app, tbl_nil, tbl_cons, Int.toNat_natCast, Int.toNat_zero, Nat.reduceBEq, Nat.reduceBNe, Nat.blt, Nat.ble, cond_true, cond_false, true_and, and_true, forall_const, true_implies, decide_true, decide_false, Bool.and_true, Bool.and_false, Bool.true_and, Bool.false_and, Bool.or_false, Bool.or_true, Bool.true_or, Bool.false_or, reduceCtorEq, List.length_cons, List.length_nil, List.append_nil, List.nil_append, List.cons_append, List.getElem?_cons_zero, List.getElem?_cons_succ, List.getElem?_nil, tupSV, List.map_cons, List.map_nil, List.filterMap_cons, List.filterMap_nil, List.set_cons_zero, List.set_cons_succ, List.drop_zero, List.drop_succ_cons, List.take_succ_cons, List.take_zero, List.take_nil, List.drop_nil, Nat.reduceAdd, Nat.zero_add, Nat.add_zero, Nat.reduceMul, Nat.reduceLT, Nat.reduceLeDiff, bne_self_eq_false, bne_iff_ne, beq_self_eq_true, List.replicate, List.flatten_cons, List.flatten_nil, dite_true, dite_false])
    | with_reducible refine VC.mid ?_
    | (refine And.intro (by first | omega | (unfold InI64; omega) | (intros; simp_all; done) | (intros; simp_all [InI64, InI32]; omega)) ?_)
    | (refine VC.condT (by rfl) (fun h => ?_) (fun h => ?_) <;> (try (cases h; done)) <;> (try simp only [decide_eq_true_eq, decide_eq_false_iff_not, Bool.and_eq_true, Bool.or_eq_true, Bool.and_eq_false_iff, Bool.or_eq_false_iff, Bool.not_eq_true', Bool.not_eq_false', not_true_eq_false, not_false_eq_true, or_false, or_true, false_or, true_or, and_true, true_and, and_false, false_and] at h) <;> (try (simp only [*, reduceCtorEq] at h; done)) <;> (try (exfalso; omega; done))))
      refine ⟨k + 1, [], [], ?_, ?_, ?_⟩
      · rw [← manyS_yes hd]; exact hk
      · omega
      · simp only [Weak, weakSl, weakHp, sameSB, eqSV, eqSC, eqL, eqS0, nils,  SV.ren, SC.ren, S0.ren, SV.ltB, SC.ltB, S0.ltB, nodupB, List.contains_nil, List.contains_cons, Bool.not_false, Bool.not_true, List.take_nil, List.range_zero, List.all_nil, List.all_cons, List.getD_cons_zero, List.getD_cons_succ, dite_true, valSV, cond_or, cond_and, implies_true, imp_self, decide_eq_true_eq, decide_eq_false_iff_not, runOps, runP, actOf, argE, argsE, bound, getE, putD, putE, putR, pruneE, owe, ret1, fit, quot, remd, binR, unR, beqR, beq_self_eq_true, pickB, fillL, setL, SV.cells, vals, subList, cellsLoad, rowLoad, loadR, storeR, faddrR, iaddrR, subR, srcL, apart0, appendR, rowLen, etOf, decs, fieldR, loOf, dstOk, allOne, S0.one, Value.oneCell', ET.enc, ET.sz, ET.dec, ET.dft, word_app, wordT_app, wordS_app, tbl_nil, tbl_cons, Int.toNat_natCast, Int.toNat_zero, Nat.reduceBEq, Nat.reduceBNe, Nat.blt, Nat.ble, cond_true, cond_false, true_and, and_true, forall_const, true_implies, decide_true, decide_false, Bool.and_true, Bool.and_false, Bool.true_and, Bool.false_and, Bool.or_false, Bool.or_true, Bool.true_or, Bool.false_or, reduceCtorEq, List.length_cons, List.length_nil, List.append_nil, List.nil_append, List.cons_append, List.getElem?_cons_zero, List.getElem?_cons_succ, List.getElem?_nil, tupSV, List.map_cons, List.map_nil, List.filterMap_cons, List.filterMap_nil, List.set_cons_zero, List.set_cons_succ, List.drop_zero, List.drop_succ_cons, List.take_succ_cons, List.take_zero, List.take_nil, List.drop_nil, Nat.reduceAdd, Nat.zero_add, Nat.add_zero, Nat.reduceMul, Nat.reduceLT, Nat.reduceLeDiff, bne_self_eq_false, bne_iff_ne, beq_self_eq_true, List.replicate, List.flatten_cons, List.flatten_nil, dite_true, dite_false]
        rfl
end Go.Proofs.YtdibapfehdhfjaaDoor
