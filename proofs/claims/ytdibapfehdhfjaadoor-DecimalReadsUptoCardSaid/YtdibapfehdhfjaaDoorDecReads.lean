/-
  signetlaw2.DecimalReads: the walk.
-/
import Derived.Test.YtdibapfehdhfjaaDoorDecR
import Derived.Below
namespace Go.Proofs.YtdibapfehdhfjaaDoor
open Go.Eng
set_option linter.unusedVariables false
set_option linter.unusedSimpArgs false

theorem below_of_stays {w w' : World} (h : Stays (fun _ => False) w w') : Go.RowKit.Below w.heap.size w w' := ⟨h.os, h.tape, h.output, h.size, fun k hk => h.block k hk id⟩

def reads_ic : IC :=
  (.seq
  (.reg 2 none [
    ⟨(some 2), .mv (.v (.bool false)), none⟩])
  (.seq
  (.reg 4 none [
    ⟨(some 8), .mv (.t 0), none⟩,
    ⟨(some 9), .call 15 [(.t 8)], none⟩,
    ⟨(some 7), .mv (.t 9), none⟩,
    ⟨(some 10), .extract (.t 7) 0, none⟩,
    ⟨(some 11), .extract (.t 7) 1, none⟩,
    ⟨(some 3), .mv (.t 10), none⟩,
    ⟨(some 4), .mv (.t 11), none⟩])
  (.seq
  (.reg 6 none [
    ⟨(some 13), .mv (.t 0), none⟩,
    ⟨(some 14), .call 16 [(.t 13)], none⟩,
    ⟨(some 12), .mv (.t 14), none⟩,
    ⟨(some 15), .extract (.t 12) 0, none⟩,
    ⟨(some 16), .extract (.t 12) 1, none⟩,
    ⟨(some 5), .mv (.t 15), none⟩,
    ⟨(some 6), .mv (.t 16), none⟩])
  (.seq
  (.reg 2 none [
    ⟨(some 17), .mv (.t 0), none⟩,
    ⟨(some 18), .call 17 [(.t 17)], none⟩,
    ⟨(some 19), .mv (.t 0), none⟩,
    ⟨(some 20), .call 18 [(.t 19)], none⟩,
    ⟨(some 21), .beq false (.t 18) (.t 20), none⟩,
    ⟨(some 22), .mv (.t 21), none⟩,
    ⟨(some 23), .mv (.t 3), some (22, true)⟩,
    ⟨(some 24), .mv (.t 5), some (22, true)⟩,
    ⟨(some 25), .bin false .eql (.t 23) (.t 24), some (22, true)⟩,
    ⟨(some 26), .pick (.t 22) (.t 25) (.v (.bool false)), none⟩,
    ⟨(some 27), .mv (.t 26), none⟩,
    ⟨(some 28), .mv (.t 4), some (27, true)⟩,
    ⟨(some 29), .mv (.t 6), some (27, true)⟩,
    ⟨(some 30), .beq false (.t 28) (.t 29), some (27, true)⟩,
    ⟨(some 31), .pick (.t 27) (.t 30) (.v (.bool false)), none⟩,
    ⟨(some 2), .mv (.t 31), none⟩])
  .ret))))
theorem reads_chk : chk Tryd.prog 4 [] = some (reads_ic, [.tmp 2], 32) := by kernel_rfl
theorem wholeR_two (s : ByteArray) : ∃ a b, wholeR s = [.int .i64 a, .bool b] := by
  unfold wholeR
  cases wholeS s
  · exact ⟨_, _, rfl⟩
  · exact ⟨_, _, rfl⟩
theorem decimalReads_walk (s : ByteArray) (W : World) (hs : s.size ≤ 1000000000) : Calls Tryd.prog 4 #[.string s] W fun e w' => e = .returned (.bool true) ∧ Go.RowKit.Below W.heap.size W w' := by
  have hG := tbl_valid (P := Tryd.prog) (l := [(15, wordT whole_w), (16, wordT whole_w), (17, word valid_w), (18, word valid_w)]) ⟨dWhole_ok, rWhole_ok, dValid_ok, rValid_ok, trivial⟩
  refine (walk0 reads_chk 7 _ hG [.string s] (.bool true) (Nat.le_of_ble_eq_true rfl) W ?_).mono fun e w' ⟨h1, h2⟩ => ⟨h1, below_of_stays h2⟩
  simp only [reads_ic, List.map_cons, List.map_nil, valSV, argSl]
  obtain ⟨a, b, hw⟩ := wholeR_two s
  repeat' (first
    | with_reducible refine VC.seq ?_
    | with_reducible refine VC.skip ?_
    | with_reducible refine VC.block ?_
    | with_reducible refine VC.blk ?_
    | (refine VC.exit (by rfl) ?_)
    | (with_reducible refine VC.reg ?_; simp only [cond_or, cond_and, implies_true, imp_self, decide_eq_true_eq, decide_eq_false_iff_not, runOps, runP, actOf, argE, argsE, bound, getE, putD, putE, putR, pruneE, owe, ret1, fit, quot, remd, binR, unR, beqR, beq_self_eq_true, pickB, fillL, setL, SV.cells, vals, subList, cellsLoad, rowLoad, loadR, storeR, faddrR, iaddrR, subR, srcL, apart0, appendR, rowLen, etOf, decs, fieldR, loOf, dstOk, allOne, S0.one, Value.oneCell', ET.enc, ET.sz, ET.dec, ET.dft, word_app, wordT_app, wordS_app, tbl_nil, tbl_cons, Int.toNat_natCast, Int.toNat_zero, Nat.reduceBEq, Nat.reduceBNe, Nat.blt, Nat.ble, cond_true, cond_false, true_and, and_true, forall_const, true_implies, decide_true, decide_false, Bool.and_true, Bool.and_false, Bool.true_and, Bool.false_and, Bool.or_false, Bool.or_true, Bool.true_or, Bool.false_or, reduceCtorEq, List.length_cons, List.length_nil, List.append_nil, List.nil_append, List.cons_append, List.getElem?_cons_zero, List.getElem?_cons_succ, List.getElem?_nil, tupSV, List.map_cons, List.map_nil, List.filterMap_cons, List.filterMap_nil, List.set_cons_zero, List.set_cons_succ, List.drop_zero, List.drop_succ_cons, List.take_succ_cons, List.take_zero, List.take_nil, List.drop_nil, Nat.reduceAdd, Nat.zero_add, Nat.add_zero, Nat.reduceMul, Nat.reduceLT, Nat.reduceLeDiff, bne_self_eq_false, bne_iff_ne, beq_self_eq_true, List.replicate, List.flatten_cons, List.flatten_nil, dite_true, dite_false, whole_w, valid_w, hw])
    | (with_reducible refine VC.regD ?_; simp only [runDraw, staticB, S0.ltB, cond_or, cond_and, implies_true, imp_self, decide_eq_true_eq, decide_eq_false_iff_not, runOps, runP, actOf, argE, argsE, bound, getE, putD, putE, putR, pruneE, owe, ret1, fit, quot, remd, binR, unR, beqR, beq_self_eq_true, pickB, fillL, setL, SV.cells, vals, subList, cellsLoad, rowLoad, loadR, storeR, faddrR, iaddrR, subR, srcL, apart0, appendR, rowLen, etOf, decs, fieldR, loOf, dstOk, allOne, S0.one, Value.oneCell', ET.enc, ET.sz, ET.dec, ET.dft, word_app, wordT_app, wordS_app, tbl_nil, tbl_cons, Int.toNat_natCast, Int.toNat_zero, Nat.reduceBEq, Nat.reduceBNe, Nat.blt, Nat.ble, cond_true, cond_false, true_and, and_true, forall_const, true_implies, decide_true, decide_false, Bool.and_true, Bool.and_false, Bool.true_and, Bool.false_and, Bool.or_false, Bool.or_true, Bool.true_or, Bool.false_or, reduceCtorEq, List.length_cons, List.length_nil, List.append_nil, List.nil_append, List.cons_append, List.getElem?_cons_zero, List.getElem?_cons_succ, List.getElem?_nil, tupSV, List.map_cons, List.map_nil, List.filterMap_cons, List.filterMap_nil, List.set_cons_zero, List.set_cons_succ, List.drop_zero, List.drop_succ_cons, List.take_succ_cons, List.take_zero, List.take_nil, List.drop_nil, Nat.reduceAdd, Nat.zero_add, Nat.add_zero, Nat.reduceMul, Nat.reduceLT, Nat.reduceLeDiff, bne_self_eq_false, bne_iff_ne, beq_self_eq_true, List.replicate, List.flatten_cons, List.flatten_nil, dite_true, dite_false, whole_w, valid_w, hw])
    | (with_reducible refine VC.ret ?_; simp only [FinOK, resE, rvE, mkRes, cond_or, cond_and, implies_true, imp_self, decide_eq_true_eq, decide_eq_false_iff_not, runOps, runP, actOf, argE, argsE, bound, getE, putD, putE, putR, pruneE, owe, ret1, fit, quot, remd, binR, unR, beqR, beq_self_eq_true, pickB, fillL, setL, SV.cells, vals, subList, cellsLoad, rowLoad, loadR, storeR, faddrR, iaddrR, subR, srcL, apart0, appendR, rowLen, etOf, decs, fieldR, loOf, dstOk, allOne, S0.one, Value.oneCell', ET.enc, ET.sz, ET.dec, ET.dft, word_app, wordT_app, wordS_app, tbl_nil, tbl_cons, Int.toNat_natCast, Int.toNat_zero, Nat.reduceBEq, Nat.reduceBNe, Nat.blt, Nat.ble, cond_true, cond_false, true_and, and_true, forall_const, true_implies, decide_true, decide_false, Bool.and_true, Bool.and_false, Bool.true_and, Bool.false_and, Bool.or_false, Bool.or_true, Bool.true_or, Bool.false_or, reduceCtorEq, List.length_cons, List.length_nil, List.append_nil, List.nil_append, List.cons_append, List.getElem?_cons_zero, List.getElem?_cons_succ, List.getElem?_nil, tupSV, List.map_cons, List.map_nil, List.filterMap_cons, List.filterMap_nil, List.set_cons_zero, List.set_cons_succ, List.drop_zero, List.drop_succ_cons, List.take_succ_cons, List.take_zero, List.take_nil, List.drop_nil, Nat.reduceAdd, Nat.zero_add, Nat.add_zero, Nat.reduceMul, Nat.reduceLT, Nat.reduceLeDiff, bne_self_eq_false, bne_iff_ne, beq_self_eq_true, List.replicate, List.flatten_cons, List.flatten_nil, dite_true, dite_false, whole_w, valid_w, hw])
    | with_reducible refine VC.mid ?_
    | (refine And.intro (by first | omega | (unfold InI64; omega) | (intros; simp_all; done) | (intros; simp_all [InI64, InI32]; omega)) ?_))
end Go.Proofs.YtdibapfehdhfjaaDoor
