/-
  strings: HasPrefix, CutPrefix, TrimLeft, TrimRight (of one byte): what they compute.
-/
import Derived.Test.YtdibapfehdhfjaaDoorDig
namespace Go.Proofs.YtdibapfehdhfjaaDoor
open Go.Eng
set_option linter.unusedVariables false
set_option linter.unusedSimpArgs false

theorem bAt_extract (s : ByteArray) (a b : Nat) (i : Int) (h0 : 0 ≤ i) (hb : a + i < b) : bAt (s.extract a b) i = bAt s (a + i) := by
  by_cases h : a + i < s.size
  · have h1 : i.toNat < (s.extract a b).size := by rw [ByteArray.size_extract]; omega
    have h2 : a + i.toNat < s.size := by omega
    have e1 := bAt_in h1
    have e2 := bAt_in h2
    rw [Int.toNat_of_nonneg h0] at e1
    rw [show ((a + i.toNat : Nat) : Int) = a + i by omega] at e2
    rw [e1, e2, ByteArray.getElem_extract]
  · rw [bAt_out h, bAt_out]
    rw [ByteArray.size_extract]
    omega
theorem bAt_tail (s : ByteArray) (a : Nat) (i : Int) (h0 : 0 ≤ i) : bAt (s.extract a s.size) i = bAt s (a + i) := by
  by_cases h : a + i < s.size
  · exact bAt_extract s a s.size i h0 (by omega)
  · rw [bAt_out h, bAt_out]
    rw [ByteArray.size_extract]
    omega
theorem tail_size (s : ByteArray) (a : Nat) : (s.extract a s.size).size = s.size - a := by rw [ByteArray.size_extract]; omega
theorem tail_tail (s : ByteArray) (a b : Nat) : (s.extract a s.size).extract b (s.extract a s.size).size = s.extract (a + b) s.size := by
  rw [ByteArray.extract_extract, tail_size]
  by_cases h : a ≤ s.size
  · congr 1; omega
  · have h1 : s.extract (a + b) (min (a + (s.size - a)) s.size) = ByteArray.empty := ByteArray.extract_eq_empty_iff.2 (by omega)
    have h2 : s.extract (a + b) s.size = ByteArray.empty := ByteArray.extract_eq_empty_iff.2 (by omega)
    rw [h1, h2]
theorem head_tail (s : ByteArray) (a n : Nat) : (s.extract a s.size).extract 0 n = s.extract a (min (a + n) s.size) := by
  rw [ByteArray.extract_extract, Nat.add_zero]
theorem all_of (s : ByteArray) : s.extract 0 s.size = s := by simp
theorem none_of (s : ByteArray) : (s.extract s.size s.size) = ⟨#[]⟩ := by
  have : s.extract s.size s.size = ByteArray.empty := ByteArray.extract_eq_empty_iff.2 (by omega)
  rw [this]; rfl
theorem eq_none {s : ByteArray} : s = ⟨#[]⟩ ↔ s.size = 0 := by
  constructor
  · intro h; rw [h]; rfl
  · intro h
    have := all_of s
    rw [← this]
    have h2 : s.extract 0 s.size = ByteArray.empty := ByteArray.extract_eq_empty_iff.2 (by omega)
    rw [h2]; rfl
theorem ext_bAt {s t : ByteArray} (hz : s.size = t.size) (h : ∀ i : Nat, i < s.size → bAt s i = bAt t i) : s = t :=
  ByteArray.ext_getElem hz fun i h1 h2 => by
    have := h i h1
    rw [bAt_in h1, bAt_in h2] at this
    exact UInt8.toNat_inj.1 (by omega)

/-- A text's beginning. -/
def hasPre (s p : ByteArray) : Bool := decide (p.size ≤ s.size) && decide (s.extract 0 p.size = p)
def cutPre (s p : ByteArray) : ByteArray := if hasPre s p = true then s.extract p.size s.size else s
theorem hasPre_one {s p : ByteArray} (hp : p.size = 1) : hasPre s p = decide (bAt s 0 = bAt p 0) := by
  have hn : 0 ≤ bAt p 0 := bAt_nn (by omega) (by omega)
  unfold hasPre
  rw [hp]
  by_cases h : 1 ≤ s.size
  · have hz : (s.extract 0 1).size = p.size := by rw [ByteArray.size_extract]; omega
    simp only [h, decide_true, Bool.true_and]
    rw [decide_eq_decide]
    have hb : bAt (s.extract 0 1) 0 = bAt s 0 := by rw [bAt_extract s 0 1 0 (by omega) (by omega)]; rfl
    constructor
    · intro e; rw [← hb, e]
    · intro e
      refine ext_bAt hz fun i hi => ?_
      rw [hz, hp] at hi
      obtain rfl : i = 0 := by omega
      show bAt (s.extract 0 1) 0 = bAt p 0
      rw [hb, e]
  · have : bAt s 0 = -1 := bAt_out (by omega)
    simp [h, this]
    omega

def hasPrefix_ic : IC :=
  (.seq
  (.reg 4 none [
    ⟨(some 4), .mv (.v (.bool false)), none⟩])
  (.seq
  (.reg 4 none [
    ⟨(some 5), .mv (.t 0), none⟩,
    ⟨(some 6), .lenS (.t 5), none⟩,
    ⟨(some 7), .mv (.t 1), none⟩,
    ⟨(some 8), .lenS (.t 7), none⟩,
    ⟨(some 9), .bin false .geq (.t 6) (.t 8), none⟩,
    ⟨(some 10), .mv (.t 9), none⟩,
    ⟨(some 11), .mv (.t 0), some (10, true)⟩,
    ⟨(some 12), .mv (.t 1), some (10, true)⟩,
    ⟨(some 13), .lenS (.t 12), some (10, true)⟩,
    ⟨(some 14), .sub none (.t 11) none (some (.t 13)), some (10, true)⟩,
    ⟨(some 15), .mv (.t 1), some (10, true)⟩,
    ⟨(some 16), .bin false .eql (.t 14) (.t 15), some (10, true)⟩,
    ⟨(some 17), .pick (.t 10) (.t 16) (.v (.bool false)), none⟩,
    ⟨(some 4), .mv (.t 17), none⟩])
  .ret))
theorem hasPrefix_chk : chk Tryd.prog 84 [] = some (hasPrefix_ic, [.tmp 4], 18) := by kernel_rfl
def hasPrefix_w : List Value → Option (Prop × Value)
  | [.string s, .string p] => some (True, .bool (hasPre s p))
  | _ => none
theorem hasPrefix_ok : Valid Tryd.prog 84 (word hasPrefix_w) := by
  refine Valid.word fun vs p r hg hp w => ?_
  unfold hasPrefix_w at hg
  split at hg <;> cases hg
  rename_i s p
  refine walk0 hasPrefix_chk 5 (fun _ => none) (fun f C h => by cases h) _ _ (Nat.le_of_ble_eq_true rfl) w ?_
  simp only [hasPrefix_ic, List.map_cons, List.map_nil, valSV, argSl]
  repeat' (first
    | with_reducible refine VC.seq ?_
    | with_reducible refine VC.skip ?_
    | with_reducible refine VC.block ?_
    | with_reducible refine VC.blk ?_
    | (refine VC.exit (by rfl) ?_)
    | (with_reducible refine VC.reg ?_; simp only [cond_or, cond_and, implies_true, imp_self, decide_eq_true_eq, decide_eq_false_iff_not, runOps, runP, actOf, argE, argsE, bound, getE, putD, putE, putR, pruneE, owe, ret1, fit, quot, remd, binR, unR, beqR, beq_self_eq_true, pickB, fillL, setL, SV.cells, vals, subList, cellsLoad, rowLoad, loadR, storeR, faddrR, iaddrR, subR, srcL, apart0, appendR, rowLen, etOf, decs, fieldR, loOf, dstOk, allOne, S0.one, Value.oneCell', ET.enc, ET.sz, ET.dec, ET.dft, word_app, wordT_app, wordS_app, tbl_nil, tbl_cons, Int.toNat_natCast, Int.toNat_zero, Nat.reduceBEq, Nat.reduceBNe, Nat.blt, Nat.ble, cond_true, cond_false, true_and, and_true, forall_const, true_implies, decide_true, decide_false, Bool.and_true, Bool.and_false, Bool.true_and, Bool.false_and, Bool.or_false, Bool.or_true, Bool.true_or, Bool.false_or, reduceCtorEq, List.length_cons, List.length_nil, List.append_nil, List.nil_append, List.cons_append, List.getElem?_cons_zero, List.getElem?_cons_succ, List.getElem?_nil, tupSV, List.map_cons, List.map_nil, List.filterMap_cons, List.filterMap_nil, List.set_cons_zero, List.set_cons_succ, List.drop_zero, List.drop_succ_cons, List.take_succ_cons, List.take_zero, List.take_nil, List.drop_nil, Nat.reduceAdd, Nat.zero_add, Nat.add_zero, Nat.reduceMul, Nat.reduceLT, Nat.reduceLeDiff, bne_self_eq_false, bne_iff_ne, beq_self_eq_true, List.replicate, List.flatten_cons, List.flatten_nil, dite_true, dite_false])
    | (with_reducible refine VC.regD ?_; simp only [runDraw, staticB, S0.ltB, cond_or, cond_and, implies_true, imp_self, decide_eq_true_eq, decide_eq_false_iff_not, runOps, runP, actOf, argE, argsE, bound, getE, putD, putE, putR, pruneE, owe, ret1, fit, quot, remd, binR, unR, beqR, beq_self_eq_true, pickB, fillL, setL, SV.cells, vals, subList, cellsLoad, rowLoad, loadR, storeR, faddrR, iaddrR, subR, srcL, apart0, appendR, rowLen, etOf, decs, fieldR, loOf, dstOk, allOne, S0.one, Value.oneCell', ET.enc, ET.sz, ET.dec, ET.dft, word_app, wordT_app, wordS_app, tbl_nil, tbl_cons, Int.toNat_natCast, Int.toNat_zero, Nat.reduceBEq, Nat.reduceBNe, Nat.blt, Nat.ble, cond_true, cond_false, true_and, and_true, forall_const, true_implies, decide_true, decide_false, Bool.and_true, Bool.and_false, Bool.true_and, Bool.false_and, Bool.or_false, Bool.or_true, Bool.true_or, Bool.false_or, reduceCtorEq, List.length_cons, List.length_nil, List.append_nil, List.nil_append, List.cons_append, List.getElem?_cons_zero, List.getElem?_cons_succ, List.getElem?_nil, tupSV, List.map_cons, List.map_nil, List.filterMap_cons, List.filterMap_nil, List.set_cons_zero, List.set_cons_succ, List.drop_zero, List.drop_succ_cons, List.take_succ_cons, List.take_zero, List.take_nil, List.drop_nil, Nat.reduceAdd, Nat.zero_add, Nat.add_zero, Nat.reduceMul, Nat.reduceLT, Nat.reduceLeDiff, bne_self_eq_false, bne_iff_ne, beq_self_eq_true, List.replicate, List.flatten_cons, List.flatten_nil, dite_true, dite_false])
    | (with_reducible refine VC.ret ?_; simp only [FinOK, resE, rvE, mkRes, cond_or, cond_and, implies_true, imp_self, decide_eq_true_eq, decide_eq_false_iff_not, runOps, runP, actOf, argE, argsE, bound, getE, putD, putE, putR, pruneE, owe, ret1, fit, quot, remd, binR, unR, beqR, beq_self_eq_true, pickB, fillL, setL, SV.cells, vals, subList, cellsLoad, rowLoad, loadR, storeR, faddrR, iaddrR, subR, srcL, apart0, appendR, rowLen, etOf, decs, fieldR, loOf, dstOk, allOne, S0.one, Value.oneCell', ET.enc, ET.sz, ET.dec, ET.dft, word_app, wordT_app, wordS_app, tbl_nil, tbl_cons, Int.toNat_natCast, Int.toNat_zero, Nat.reduceBEq, Nat.reduceBNe, Nat.blt, Nat.ble, cond_true, cond_false, true_and, and_true, forall_const, true_implies, decide_true, decide_false, Bool.and_true, Bool.and_false, Bool.true_and, Bool.false_and, Bool.or_false, Bool.or_true, Bool.true_or, Bool.false_or, reduceCtorEq, List.length_cons, List.length_nil, List.append_nil, List.nil_append, List.cons_append, List.getElem?_cons_zero, List.getElem?_cons_succ, List.getElem?_nil, tupSV, List.map_cons, List.map_nil, List.filterMap_cons, List.filterMap_nil, List.set_cons_zero, List.set_cons_succ, List.drop_zero, List.drop_succ_cons, List.take_succ_cons, List.take_zero, List.take_nil, List.drop_nil, Nat.reduceAdd, Nat.zero_add, Nat.add_zero, Nat.reduceMul, Nat.reduceLT, Nat.reduceLeDiff, bne_self_eq_false, bne_iff_ne, beq_self_eq_true, List.replicate, List.flatten_cons, List.flatten_nil, dite_true, dite_false])
    | with_reducible refine VC.mid ?_
    | (refine And.intro (by first | omega | (unfold InI64; omega) | (intros; simp_all; done) | (intros; simp_all [InI64, InI32]; omega)) ?_)
    | (refine VC.condT (by rfl) (fun h => ?_) (fun h => ?_) <;> (try (cases h; done)) <;> (try simp only [decide_eq_true_eq, decide_eq_false_iff_not, Bool.and_eq_true, Bool.or_eq_true, Bool.and_eq_false_iff, Bool.or_eq_false_iff, Bool.not_eq_true', Bool.not_eq_false', not_true_eq_false, not_false_eq_true, or_false, or_true, false_or, true_or, and_true, true_and, and_false, false_and] at h) <;> (try (simp only [*, reduceCtorEq] at h; done)) <;> (try (exfalso; omega; done))))
  simp only [hasPre, Int.ofNat_le]

def cutPrefix0_ic : IC :=
  (.seq
  (.reg 5 none [
    ⟨(some 4), .mv (.v (.string ⟨#[]⟩)), none⟩,
    ⟨(some 5), .mv (.v (.bool false)), none⟩])
  (.seq
  (.seq
  (.reg 9 none [
    ⟨(some 6), .mv (.t 0), none⟩,
    ⟨(some 7), .mv (.t 1), none⟩,
    ⟨(some 8), .call 84 [(.t 6), (.t 7)], none⟩,
    ⟨(some 9), .un .not (.t 8), none⟩])
  (.cond (.t 9)
    (.seq
    (.reg 5 none [
      ⟨(some 10), .mv (.t 0), none⟩,
      ⟨(some 4), .mv (.t 10), none⟩,
      ⟨(some 5), .mv (.v (.bool false)), none⟩])
    .ret)
    .skip))
  (.seq
  (.reg 5 none [
    ⟨(some 11), .mv (.t 0), none⟩,
    ⟨(some 12), .mv (.t 1), none⟩,
    ⟨(some 13), .lenS (.t 12), none⟩,
    ⟨(some 14), .sub none (.t 11) (some (.t 13)) none, none⟩,
    ⟨(some 4), .mv (.t 14), none⟩,
    ⟨(some 5), .mv (.v (.bool true)), none⟩])
  .ret)))
theorem cutPrefix0_chk : chk Tryd.prog 67 [] = some (cutPrefix0_ic, [.tmp 4, .tmp 5], 15) := by kernel_rfl
def cutPrefix_w : List Value → Option (Prop × List Value)
  | [.string s, .string p] => some (True, [.string (cutPre s p), .bool (hasPre s p)])
  | _ => none
theorem hasPre_le {s p : ByteArray} (h : hasPre s p = true) : p.size ≤ s.size := by
  simp only [hasPre, Bool.and_eq_true, decide_eq_true_eq] at h
  exact h.1
theorem cutPrefix0_ok : Valid Tryd.prog 67 (wordT cutPrefix_w) := by
  refine Valid.wordT fun vs p r hg hp w => ?_
  unfold cutPrefix_w at hg
  split at hg <;> cases hg
  rename_i s p
  have hG := tbl_valid (P := Tryd.prog) (l := [(84, word hasPrefix_w)]) ⟨hasPrefix_ok, trivial⟩
  refine walkT cutPrefix0_chk 6 _ hG _ _ (Nat.le_of_ble_eq_true rfl) w ?_
  simp only [cutPrefix0_ic, List.map_cons, List.map_nil, valSV, argSl]
  repeat' (first
    | with_reducible refine VC.seq ?_
    | with_reducible refine VC.skip ?_
    | with_reducible refine VC.block ?_
    | with_reducible refine VC.blk ?_
    | (refine VC.exit (by rfl) ?_)
    | (with_reducible refine VC.reg ?_; simp only [cond_or, cond_and, implies_true, imp_self, decide_eq_true_eq, decide_eq_false_iff_not, runOps, runP, actOf, argE, argsE, bound, getE, putD, putE, putR, pruneE, owe, ret1, fit, quot, remd, binR, unR, beqR, beq_self_eq_true, pickB, fillL, setL, SV.cells, vals, subList, cellsLoad, rowLoad, loadR, storeR, faddrR, iaddrR, subR, srcL, apart0, appendR, rowLen, etOf, decs, fieldR, loOf, dstOk, allOne, S0.one, Value.oneCell', ET.enc, ET.sz, ET.dec, ET.dft, word_app, wordT_app, wordS_app, tbl_nil, tbl_cons, Int.toNat_natCast, Int.toNat_zero, Nat.reduceBEq, Nat.reduceBNe, Nat.blt, Nat.ble, cond_true, cond_false, true_and, and_true, forall_const, true_implies, decide_true, decide_false, Bool.and_true, Bool.and_false, Bool.true_and, Bool.false_and, Bool.or_false, Bool.or_true, Bool.true_or, Bool.false_or, reduceCtorEq, List.length_cons, List.length_nil, List.append_nil, List.nil_append, List.cons_append, List.getElem?_cons_zero, List.getElem?_cons_succ, List.getElem?_nil, tupSV, List.map_cons, List.map_nil, List.filterMap_cons, List.filterMap_nil, List.set_cons_zero, List.set_cons_succ, List.drop_zero, List.drop_succ_cons, List.take_succ_cons, List.take_zero, List.take_nil, List.drop_nil, Nat.reduceAdd, Nat.zero_add, Nat.add_zero, Nat.reduceMul, Nat.reduceLT, Nat.reduceLeDiff, bne_self_eq_false, bne_iff_ne, beq_self_eq_true, List.replicate, List.flatten_cons, List.flatten_nil, dite_true, dite_false])
    | (with_reducible refine VC.regD ?_; simp only [runDraw, staticB, S0.ltB, cond_or, cond_and, implies_true, imp_self, decide_eq_true_eq, decide_eq_false_iff_not, runOps, runP, actOf, argE, argsE, bound, getE, putD, putE, putR, pruneE, owe, ret1, fit, quot, remd, binR, unR, beqR, beq_self_eq_true, pickB, fillL, setL, SV.cells, vals, subList, cellsLoad, rowLoad, loadR, storeR, faddrR, iaddrR, subR, srcL, apart0, appendR, rowLen, etOf, decs, fieldR, loOf, dstOk, allOne, S0.one, Value.oneCell', ET.enc, ET.sz, ET.dec, ET.dft, word_app, wordT_app, wordS_app, tbl_nil, tbl_cons, Int.toNat_natCast, Int.toNat_zero, Nat.reduceBEq, Nat.reduceBNe, Nat.blt, Nat.ble, cond_true, cond_false, true_and, and_true, forall_const, true_implies, decide_true, decide_false, Bool.and_true, Bool.and_false, Bool.true_and, Bool.false_and, Bool.or_false, Bool.or_true, Bool.true_or, Bool.false_or, reduceCtorEq, List.length_cons, List.length_nil, List.append_nil, List.nil_append, List.cons_append, List.getElem?_cons_zero, List.getElem?_cons_succ, List.getElem?_nil, tupSV, List.map_cons, List.map_nil, List.filterMap_cons, List.filterMap_nil, List.set_cons_zero, List.set_cons_succ, List.drop_zero, List.drop_succ_cons, List.take_succ_cons, List.take_zero, List.take_nil, List.drop_nil, Nat.reduceAdd, Nat.zero_add, Nat.add_zero, Nat.reduceMul, Nat.reduceLT, Nat.reduceLeDiff, bne_self_eq_false, bne_iff_ne, beq_self_eq_true, List.replicate, List.flatten_cons, List.flatten_nil, dite_true, dite_false])
    | (with_reducible refine VC.ret ?_; simp only [FinOK, resE, rvE, mkRes, cond_or, cond_and, implies_true, imp_self, decide_eq_true_eq, decide_eq_false_iff_not, runOps, runP, actOf, argE, argsE, bound, getE, putD, putE, putR, pruneE, owe, ret1, fit, quot, remd, binR, unR, beqR, beq_self_eq_true, pickB, fillL, setL, SV.cells, vals, subList, cellsLoad, rowLoad, loadR, storeR, faddrR, iaddrR, subR, srcL, apart0, appendR, rowLen, etOf, decs, fieldR, loOf, dstOk, allOne, S0.one, Value.oneCell', ET.enc, ET.sz, ET.dec, ET.dft, word_app, wordT_app, wordS_app, tbl_nil, tbl_cons, Int.toNat_natCast, Int.toNat_zero, Nat.reduceBEq, Nat.reduceBNe, Nat.blt, Nat.ble, cond_true, cond_false, true_and, and_true, forall_const, true_implies, decide_true, decide_false, Bool.and_true, Bool.and_false, Bool.true_and, Bool.false_and, Bool.or_false, Bool.or_true, Bool.true_or, Bool.false_or, reduceCtorEq, List.length_cons, List.length_nil, List.append_nil, List.nil_append, List.cons_append, List.getElem?_cons_zero, List.getElem?_cons_succ, List.getElem?_nil, tupSV, List.map_cons, List.map_nil, List.filterMap_cons, List.filterMap_nil, List.set_cons_zero, List.set_cons_succ, List.drop_zero, List.drop_succ_cons, List.take_succ_cons, List.take_zero, List.take_nil, List.drop_nil, Nat.reduceAdd, Nat.zero_add, Nat.add_zero, Nat.reduceMul, Nat.reduceLT, Nat.reduceLeDiff, bne_self_eq_false, bne_iff_ne, beq_self_eq_true, List.replicate, List.flatten_cons, List.flatten_nil, dite_true, dite_false])
    | with_reducible refine VC.mid ?_
    | (refine And.intro (by first | omega | (unfold InI64; omega) | (intros; simp_all; done) | (intros; simp_all [InI64, InI32]; omega)) ?_))
  cases hx : hasPre s p
  · repeat' (first
    | with_reducible refine VC.seq ?_
    | with_reducible refine VC.skip ?_
    | with_reducible refine VC.block ?_
    | with_reducible refine VC.blk ?_
    | (refine VC.exit (by rfl) ?_)
    | (with_reducible refine VC.reg ?_; simp only [cond_or, cond_and, implies_true, imp_self, decide_eq_true_eq, decide_eq_false_iff_not, runOps, runP, actOf, argE, argsE, bound, getE, putD, putE, putR, pruneE, owe, ret1, fit, quot, remd, binR, unR, beqR, beq_self_eq_true, pickB, fillL, setL, SV.cells, vals, subList, cellsLoad, rowLoad, loadR, storeR, faddrR, iaddrR, subR, srcL, apart0, appendR, rowLen, etOf, decs, fieldR, loOf, dstOk, allOne, S0.one, Value.oneCell', ET.enc, ET.sz, ET.dec, ET.dft, word_app, wordT_app, wordS_app, tbl_nil, tbl_cons, Int.toNat_natCast, Int.toNat_zero, Nat.reduceBEq, Nat.reduceBNe, Nat.blt, Nat.ble, cond_true, cond_false, true_and, and_true, forall_const, true_implies, decide_true, decide_false, Bool.and_true, Bool.and_false, Bool.true_and, Bool.false_and, Bool.or_false, Bool.or_true, Bool.true_or, Bool.false_or, reduceCtorEq, List.length_cons, List.length_nil, List.append_nil, List.nil_append, List.cons_append, List.getElem?_cons_zero, List.getElem?_cons_succ, List.getElem?_nil, tupSV, List.map_cons, List.map_nil, List.filterMap_cons, List.filterMap_nil, List.set_cons_zero, List.set_cons_succ, List.drop_zero, List.drop_succ_cons, List.take_succ_cons, List.take_zero, List.take_nil, List.drop_nil, Nat.reduceAdd, Nat.zero_add, Nat.add_zero, Nat.reduceMul, Nat.reduceLT, Nat.reduceLeDiff, bne_self_eq_false, bne_iff_ne, beq_self_eq_true, List.replicate, List.flatten_cons, List.flatten_nil, dite_true, dite_false])
    | (with_reducible refine VC.regD ?_; simp only [runDraw, staticB, S0.ltB, cond_or, cond_and, implies_true, imp_self, decide_eq_true_eq, decide_eq_false_iff_not, runOps, runP, actOf, argE, argsE, bound, getE, putD, putE, putR, pruneE, owe, ret1, fit, quot, remd, binR, unR, beqR, beq_self_eq_true, pickB, fillL, setL, SV.cells, vals, subList, cellsLoad, rowLoad, loadR, storeR, faddrR, iaddrR, subR, srcL, apart0, appendR, rowLen, etOf, decs, fieldR, loOf, dstOk, allOne, S0.one, Value.oneCell', ET.enc, ET.sz, ET.dec, ET.dft, word_app, wordT_app, wordS_app, tbl_nil, tbl_cons, Int.toNat_natCast, Int.toNat_zero, Nat.reduceBEq, Nat.reduceBNe, Nat.blt, Nat.ble, cond_true, cond_false, true_and, and_true, forall_const, true_implies, decide_true, decide_false, Bool.and_true, Bool.and_false, Bool.true_and, Bool.false_and, Bool.or_false, Bool.or_true, Bool.true_or, Bool.false_or, reduceCtorEq, List.length_cons, List.length_nil, List.append_nil, List.nil_append, List.cons_append, List.getElem?_cons_zero, List.getElem?_cons_succ, List.getElem?_nil, tupSV, List.map_cons, List.map_nil, List.filterMap_cons, List.filterMap_nil, List.set_cons_zero, List.set_cons_succ, List.drop_zero, List.drop_succ_cons, List.take_succ_cons, List.take_zero, List.take_nil, List.drop_nil, Nat.reduceAdd, Nat.zero_add, Nat.add_zero, Nat.reduceMul, Nat.reduceLT, Nat.reduceLeDiff, bne_self_eq_false, bne_iff_ne, beq_self_eq_true, List.replicate, List.flatten_cons, List.flatten_nil, dite_true, dite_false])
    | (with_reducible refine VC.ret ?_; simp only [FinOK, resE, rvE, mkRes, cond_or, cond_and, implies_true, imp_self, decide_eq_true_eq, decide_eq_false_iff_not, runOps, runP, actOf, argE, argsE, bound, getE, putD, putE, putR, pruneE, owe, ret1, fit, quot, remd, binR, unR, beqR, beq_self_eq_true, pickB, fillL, setL, SV.cells, vals, subList, cellsLoad, rowLoad, loadR, storeR, faddrR, iaddrR, subR, srcL, apart0, appendR, rowLen, etOf, decs, fieldR, loOf, dstOk, allOne, S0.one, Value.oneCell', ET.enc, ET.sz, ET.dec, ET.dft, word_app, wordT_app, wordS_app, tbl_nil, tbl_cons, Int.toNat_natCast, Int.toNat_zero, Nat.reduceBEq, Nat.reduceBNe, Nat.blt, Nat.ble, cond_true, cond_false, true_and, and_true, forall_const, true_implies, decide_true, decide_false, Bool.and_true, Bool.and_false, Bool.true_and, Bool.false_and, Bool.or_false, Bool.or_true, Bool.true_or, Bool.false_or, reduceCtorEq, List.length_cons, List.length_nil, List.append_nil, List.nil_append, List.cons_append, List.getElem?_cons_zero, List.getElem?_cons_succ, List.getElem?_nil, tupSV, List.map_cons, List.map_nil, List.filterMap_cons, List.filterMap_nil, List.set_cons_zero, List.set_cons_succ, List.drop_zero, List.drop_succ_cons, List.take_succ_cons, List.take_zero, List.take_nil, List.drop_nil, Nat.reduceAdd, Nat.zero_add, Nat.add_zero, Nat.reduceMul, Nat.reduceLT, Nat.reduceLeDiff, bne_self_eq_false, bne_iff_ne, beq_self_eq_true, List.replicate, List.flatten_cons, List.flatten_nil, dite_true, dite_false])
    | with_reducible refine VC.mid ?_
    | (refine And.intro (by first | omega | (unfold InI64; omega) | (intros; simp_all; done) | (intros; simp_all [InI64, InI32]; omega)) ?_)
    | (refine VC.condT (by rfl) (fun h => ?_) (fun h => ?_) <;> (try (cases h; done)) <;> (try simp only [decide_eq_true_eq, decide_eq_false_iff_not, Bool.and_eq_true, Bool.or_eq_true, Bool.and_eq_false_iff, Bool.or_eq_false_iff, Bool.not_eq_true', Bool.not_eq_false', not_true_eq_false, not_false_eq_true, or_false, or_true, false_or, true_or, and_true, true_and, and_false, false_and] at h) <;> (try (simp only [*, reduceCtorEq] at h; done)) <;> (try (exfalso; omega; done))))
    simp [cutPre, hx]
  · have hl := hasPre_le hx
    repeat' (first
    | with_reducible refine VC.seq ?_
    | with_reducible refine VC.skip ?_
    | with_reducible refine VC.block ?_
    | with_reducible refine VC.blk ?_
    | (refine VC.exit (by rfl) ?_)
    | (with_reducible refine VC.reg ?_; simp only [cond_or, cond_and, implies_true, imp_self, decide_eq_true_eq, decide_eq_false_iff_not, runOps, runP, actOf, argE, argsE, bound, getE, putD, putE, putR, pruneE, owe, ret1, fit, quot, remd, binR, unR, beqR, beq_self_eq_true, pickB, fillL, setL, SV.cells, vals, subList, cellsLoad, rowLoad, loadR, storeR, faddrR, iaddrR, subR, srcL, apart0, appendR, rowLen, etOf, decs, fieldR, loOf, dstOk, allOne, S0.one, Value.oneCell', ET.enc, ET.sz, ET.dec, ET.dft, word_app, wordT_app, wordS_app, tbl_nil, tbl_cons, Int.toNat_natCast, Int.toNat_zero, Nat.reduceBEq, Nat.reduceBNe, Nat.blt, Nat.ble, cond_true, cond_false, true_and, and_true, forall_const, true_implies, decide_true, decide_false, Bool.and_true, Bool.and_false, Bool.true_and, Bool.false_and, Bool.or_false, Bool.or_true, Bool.true_or, Bool.false_or, reduceCtorEq, List.length_cons, List.length_nil, List.append_nil, List.nil_append, List.cons_append, List.getElem?_cons_zero, List.getElem?_cons_succ, List.getElem?_nil, tupSV, List.map_cons, List.map_nil, List.filterMap_cons, List.filterMap_nil, List.set_cons_zero, List.set_cons_succ, List.drop_zero, List.drop_succ_cons, List.take_succ_cons, List.take_zero, List.take_nil, List.drop_nil, Nat.reduceAdd, Nat.zero_add, Nat.add_zero, Nat.reduceMul, Nat.reduceLT, Nat.reduceLeDiff, bne_self_eq_false, bne_iff_ne, beq_self_eq_true, List.replicate, List.flatten_cons, List.flatten_nil, dite_true, dite_false])
    | (with_reducible refine VC.regD ?_; simp only [runDraw, staticB, S0.ltB, cond_or, cond_and, implies_true, imp_self, decide_eq_true_eq, decide_eq_false_iff_not, runOps, runP, actOf, argE, argsE, bound, getE, putD, putE, putR, pruneE, owe, ret1, fit, quot, remd, binR, unR, beqR, beq_self_eq_true, pickB, fillL, setL, SV.cells, vals, subList, cellsLoad, rowLoad, loadR, storeR, faddrR, iaddrR, subR, srcL, apart0, appendR, rowLen, etOf, decs, fieldR, loOf, dstOk, allOne, S0.one, Value.oneCell', ET.enc, ET.sz, ET.dec, ET.dft, word_app, wordT_app, wordS_app, tbl_nil, tbl_cons, Int.toNat_natCast, Int.toNat_zero, Nat.reduceBEq, Nat.reduceBNe, Nat.blt, Nat.ble, cond_true, cond_false, true_and, and_true, forall_const, true_implies, decide_true, decide_false, Bool.and_true, Bool.and_false, Bool.true_and, Bool.false_and, Bool.or_false, Bool.or_true, Bool.true_or, Bool.false_or, reduceCtorEq, List.length_cons, List.length_nil, List.append_nil, List.nil_append, List.cons_append, List.getElem?_cons_zero, List.getElem?_cons_succ, List.getElem?_nil, tupSV, List.map_cons, List.map_nil, List.filterMap_cons, List.filterMap_nil, List.set_cons_zero, List.set_cons_succ, List.drop_zero, List.drop_succ_cons, List.take_succ_cons, List.take_zero, List.take_nil, List.drop_nil, Nat.reduceAdd, Nat.zero_add, Nat.add_zero, Nat.reduceMul, Nat.reduceLT, Nat.reduceLeDiff, bne_self_eq_false, bne_iff_ne, beq_self_eq_true, List.replicate, List.flatten_cons, List.flatten_nil, dite_true, dite_false])
    | (with_reducible refine VC.ret ?_; simp only [FinOK, resE, rvE, mkRes, cond_or, cond_and, implies_true, imp_self, decide_eq_true_eq, decide_eq_false_iff_not, runOps, runP, actOf, argE, argsE, bound, getE, putD, putE, putR, pruneE, owe, ret1, fit, quot, remd, binR, unR, beqR, beq_self_eq_true, pickB, fillL, setL, SV.cells, vals, subList, cellsLoad, rowLoad, loadR, storeR, faddrR, iaddrR, subR, srcL, apart0, appendR, rowLen, etOf, decs, fieldR, loOf, dstOk, allOne, S0.one, Value.oneCell', ET.enc, ET.sz, ET.dec, ET.dft, word_app, wordT_app, wordS_app, tbl_nil, tbl_cons, Int.toNat_natCast, Int.toNat_zero, Nat.reduceBEq, Nat.reduceBNe, Nat.blt, Nat.ble, cond_true, cond_false, true_and, and_true, forall_const, true_implies, decide_true, decide_false, Bool.and_true, Bool.and_false, Bool.true_and, Bool.false_and, Bool.or_false, Bool.or_true, Bool.true_or, Bool.false_or, reduceCtorEq, List.length_cons, List.length_nil, List.append_nil, List.nil_append, List.cons_append, List.getElem?_cons_zero, List.getElem?_cons_succ, List.getElem?_nil, tupSV, List.map_cons, List.map_nil, List.filterMap_cons, List.filterMap_nil, List.set_cons_zero, List.set_cons_succ, List.drop_zero, List.drop_succ_cons, List.take_succ_cons, List.take_zero, List.take_nil, List.drop_nil, Nat.reduceAdd, Nat.zero_add, Nat.add_zero, Nat.reduceMul, Nat.reduceLT, Nat.reduceLeDiff, bne_self_eq_false, bne_iff_ne, beq_self_eq_true, List.replicate, List.flatten_cons, List.flatten_nil, dite_true, dite_false])
    | with_reducible refine VC.mid ?_
    | (refine And.intro (by first | omega | (unfold InI64; omega) | (intros; simp_all; done) | (intros; simp_all [InI64, InI32]; omega)) ?_)
    | (refine VC.condT (by rfl) (fun h => ?_) (fun h => ?_) <;> (try (cases h; done)) <;> (try simp only [decide_eq_true_eq, decide_eq_false_iff_not, Bool.and_eq_true, Bool.or_eq_true, Bool.and_eq_false_iff, Bool.or_eq_false_iff, Bool.not_eq_true', Bool.not_eq_false', not_true_eq_false, not_false_eq_true, or_false, or_true, false_or, true_or, and_true, true_and, and_false, false_and] at h) <;> (try (simp only [*, reduceCtorEq] at h; done)) <;> (try (exfalso; omega; done))))
    simp [cutPre, hx]

def cutPrefix_ic : IC :=
  (.seq
  (.reg 5 none [
    ⟨(some 4), .mv (.v (.string ⟨#[]⟩)), none⟩,
    ⟨(some 5), .mv (.v (.bool false)), none⟩])
  (.seq
  (.reg 5 none [
    ⟨(some 6), .mv (.t 0), none⟩,
    ⟨(some 7), .mv (.t 1), none⟩,
    ⟨(some 8), .call 67 [(.t 6), (.t 7)], none⟩,
    ⟨(some 9), .extract (.t 8) 0, none⟩,
    ⟨(some 10), .extract (.t 8) 1, none⟩,
    ⟨(some 4), .mv (.t 9), none⟩,
    ⟨(some 5), .mv (.t 10), none⟩])
  .ret))
theorem cutPrefix_chk : chk Tryd.prog 50 [] = some (cutPrefix_ic, [.tmp 4, .tmp 5], 11) := by kernel_rfl
theorem cutPrefix_ok : Valid Tryd.prog 50 (wordT cutPrefix_w) := by
  refine Valid.wordT fun vs p r hg hp w => ?_
  unfold cutPrefix_w at hg
  split at hg <;> cases hg
  rename_i s p
  have hG := tbl_valid (P := Tryd.prog) (l := [(67, wordT cutPrefix_w)]) ⟨cutPrefix0_ok, trivial⟩
  refine walkT cutPrefix_chk 6 _ hG _ _ (Nat.le_of_ble_eq_true rfl) w ?_
  simp only [cutPrefix_ic, List.map_cons, List.map_nil, valSV, argSl]
  repeat' (first
    | with_reducible refine VC.seq ?_
    | with_reducible refine VC.skip ?_
    | with_reducible refine VC.block ?_
    | with_reducible refine VC.blk ?_
    | (refine VC.exit (by rfl) ?_)
    | (with_reducible refine VC.reg ?_; simp only [cond_or, cond_and, implies_true, imp_self, decide_eq_true_eq, decide_eq_false_iff_not, runOps, runP, actOf, argE, argsE, bound, getE, putD, putE, putR, pruneE, owe, ret1, fit, quot, remd, binR, unR, beqR, beq_self_eq_true, pickB, fillL, setL, SV.cells, vals, subList, cellsLoad, rowLoad, loadR, storeR, faddrR, iaddrR, subR, srcL, apart0, appendR, rowLen, etOf, decs, fieldR, loOf, dstOk, allOne, S0.one, Value.oneCell', ET.enc, ET.sz, ET.dec, ET.dft, word_app, wordT_app, wordS_app, tbl_nil, tbl_cons, Int.toNat_natCast, Int.toNat_zero, Nat.reduceBEq, Nat.reduceBNe, Nat.blt, Nat.ble, cond_true, cond_false, true_and, and_true, forall_const, true_implies, decide_true, decide_false, Bool.and_true, Bool.and_false, Bool.true_and, Bool.false_and, Bool.or_false, Bool.or_true, Bool.true_or, Bool.false_or, reduceCtorEq, List.length_cons, List.length_nil, List.append_nil, List.nil_append, List.cons_append, List.getElem?_cons_zero, List.getElem?_cons_succ, List.getElem?_nil, tupSV, List.map_cons, List.map_nil, List.filterMap_cons, List.filterMap_nil, List.set_cons_zero, List.set_cons_succ, List.drop_zero, List.drop_succ_cons, List.take_succ_cons, List.take_zero, List.take_nil, List.drop_nil, Nat.reduceAdd, Nat.zero_add, Nat.add_zero, Nat.reduceMul, Nat.reduceLT, Nat.reduceLeDiff, bne_self_eq_false, bne_iff_ne, beq_self_eq_true, List.replicate, List.flatten_cons, List.flatten_nil, dite_true, dite_false])
    | (with_reducible refine VC.regD ?_; simp only [runDraw, staticB, S0.ltB, cond_or, cond_and, implies_true, imp_self, decide_eq_true_eq, decide_eq_false_iff_not, runOps, runP, actOf, argE, argsE, bound, getE, putD, putE, putR, pruneE, owe, ret1, fit, quot, remd, binR, unR, beqR, beq_self_eq_true, pickB, fillL, setL, SV.cells, vals, subList, cellsLoad, rowLoad, loadR, storeR, faddrR, iaddrR, subR, srcL, apart0, appendR, rowLen, etOf, decs, fieldR, loOf, dstOk, allOne, S0.one, Value.oneCell', ET.enc, ET.sz, ET.dec, ET.dft, word_app, wordT_app, wordS_app, tbl_nil, tbl_cons, Int.toNat_natCast, Int.toNat_zero, Nat.reduceBEq, Nat.reduceBNe, Nat.blt, Nat.ble, cond_true, cond_false, true_and, and_true, forall_const, true_implies, decide_true, decide_false, Bool.and_true, Bool.and_false, Bool.true_and, Bool.false_and, Bool.or_false, Bool.or_true, Bool.true_or, Bool.false_or, reduceCtorEq, List.length_cons, List.length_nil, List.append_nil, List.nil_append, List.cons_append, List.getElem?_cons_zero, List.getElem?_cons_succ, List.getElem?_nil, tupSV, List.map_cons, List.map_nil, List.filterMap_cons, List.filterMap_nil, List.set_cons_zero, List.set_cons_succ, List.drop_zero, List.drop_succ_cons, List.take_succ_cons, List.take_zero, List.take_nil, List.drop_nil, Nat.reduceAdd, Nat.zero_add, Nat.add_zero, Nat.reduceMul, Nat.reduceLT, Nat.reduceLeDiff, bne_self_eq_false, bne_iff_ne, beq_self_eq_true, List.replicate, List.flatten_cons, List.flatten_nil, dite_true, dite_false])
    | (with_reducible refine VC.ret ?_; simp only [FinOK, resE, rvE, mkRes, cond_or, cond_and, implies_true, imp_self, decide_eq_true_eq, decide_eq_false_iff_not, runOps, runP, actOf, argE, argsE, bound, getE, putD, putE, putR, pruneE, owe, ret1, fit, quot, remd, binR, unR, beqR, beq_self_eq_true, pickB, fillL, setL, SV.cells, vals, subList, cellsLoad, rowLoad, loadR, storeR, faddrR, iaddrR, subR, srcL, apart0, appendR, rowLen, etOf, decs, fieldR, loOf, dstOk, allOne, S0.one, Value.oneCell', ET.enc, ET.sz, ET.dec, ET.dft, word_app, wordT_app, wordS_app, tbl_nil, tbl_cons, Int.toNat_natCast, Int.toNat_zero, Nat.reduceBEq, Nat.reduceBNe, Nat.blt, Nat.ble, cond_true, cond_false, true_and, and_true, forall_const, true_implies, decide_true, decide_false, Bool.and_true, Bool.and_false, Bool.true_and, Bool.false_and, Bool.or_false, Bool.or_true, Bool.true_or, Bool.false_or, reduceCtorEq, List.length_cons, List.length_nil, List.append_nil, List.nil_append, List.cons_append, List.getElem?_cons_zero, List.getElem?_cons_succ, List.getElem?_nil, tupSV, List.map_cons, List.map_nil, List.filterMap_cons, List.filterMap_nil, List.set_cons_zero, List.set_cons_succ, List.drop_zero, List.drop_succ_cons, List.take_succ_cons, List.take_zero, List.take_nil, List.drop_nil, Nat.reduceAdd, Nat.zero_add, Nat.add_zero, Nat.reduceMul, Nat.reduceLT, Nat.reduceLeDiff, bne_self_eq_false, bne_iff_ne, beq_self_eq_true, List.replicate, List.flatten_cons, List.flatten_nil, dite_true, dite_false])
    | with_reducible refine VC.mid ?_
    | (refine And.intro (by first | omega | (unfold InI64; omega) | (intros; simp_all; done) | (intros; simp_all [InI64, InI32]; omega)) ?_)
    | (refine VC.condT (by rfl) (fun h => ?_) (fun h => ?_) <;> (try (cases h; done)) <;> (try simp only [decide_eq_true_eq, decide_eq_false_iff_not, Bool.and_eq_true, Bool.or_eq_true, Bool.and_eq_false_iff, Bool.or_eq_false_iff, Bool.not_eq_true', Bool.not_eq_false', not_true_eq_false, not_false_eq_true, or_false, or_true, false_or, true_or, and_true, true_and, and_false, false_and] at h) <;> (try (simp only [*, reduceCtorEq] at h; done)) <;> (try (exfalso; omega; done))))

/-- The place behind all bytes b from a place on. -/
def leadB (s : ByteArray) (b : Int) (i : Nat) : Nat := if h : i < s.size ∧ bAt s i = b then leadB s b (i + 1) else i
  termination_by s.size - i
  decreasing_by omega
theorem leadB_yes {s : ByteArray} {b : Int} {i : Nat} (h : i < s.size ∧ bAt s i = b) : leadB s b i = leadB s b (i + 1) := by rw [leadB, dif_pos h]
theorem leadB_no {s : ByteArray} {b : Int} {i : Nat} (h : ¬ (i < s.size ∧ bAt s i = b)) : leadB s b i = i := by rw [leadB, dif_neg h]
def trimL (s : ByteArray) (b : Int) : ByteArray := s.extract (leadB s b 0) s.size
/-- The places that are left without the bytes b behind. -/
def backB (s : ByteArray) (b : Int) : Nat → Nat
  | 0 => 0
  | n + 1 => if bAt s n = b then backB s b n else n + 1
def trimR (s : ByteArray) (b : Int) : ByteArray := s.extract 0 (backB s b s.size)

def trimLeftByte_ic : IC :=
  (.seq
  (.reg 4 none [
    ⟨(some 4), .mv (.v (.string ⟨#[]⟩)), none⟩])
  (.seq
  (.block 0
    (.loop
      (.seq
      (.seq
      (.reg 13 none [
        ⟨(some 5), .mv (.t 0), none⟩,
        ⟨(some 6), .lenS (.t 5), none⟩,
        ⟨(some 7), .bin false .gtr (.t 6) (.v (.int .i64 0)), none⟩,
        ⟨(some 8), .mv (.t 7), none⟩,
        ⟨(some 9), .mv (.t 0), some (8, true)⟩,
        ⟨(some 10), .index (.t 9) (.v (.int .i64 0)), some (8, true)⟩,
        ⟨(some 11), .mv (.t 1), some (8, true)⟩,
        ⟨(some 12), .bin false .eql (.t 10) (.t 11), some (8, true)⟩,
        ⟨(some 13), .pick (.t 8) (.t 12) (.v (.bool false)), none⟩])
      (.cond (.t 13)
        .skip
        (.exit 0)))
      (.block 1
        (.reg 0 none [
          ⟨(some 14), .mv (.t 0), none⟩,
          ⟨(some 15), .sub none (.t 14) (some (.v (.int .i64 1))) none, none⟩,
          ⟨(some 0), .mv (.t 15), none⟩])))))
  (.seq
  (.reg 4 none [
    ⟨(some 16), .mv (.t 0), none⟩,
    ⟨(some 4), .mv (.t 16), none⟩])
  .ret)))
theorem trimLeftByte_chk : chk Tryd.prog 68 [] = some (trimLeftByte_ic, [.tmp 4], 17) := by kernel_rfl
def trimLeftByte_w : List Value → Option (Prop × Value)
  | [.string s, .int .u8 b] => some (True, .string (trimL s b))
  | _ => none
theorem trimLeftByte_ok : Valid Tryd.prog 68 (word trimLeftByte_w) := by
  refine Valid.word fun vs p r hg hp w => ?_
  unfold trimLeftByte_w at hg
  split at hg <;> cases hg
  rename_i s b
  refine walk0 trimLeftByte_chk 5 (fun _ => none) (fun f C h => by cases h) _ _ (Nat.le_of_ble_eq_true rfl) w ?_
  simp only [trimLeftByte_ic, List.map_cons, List.map_nil, valSV, argSl]
  repeat' (first
    | with_reducible refine VC.seq ?_
    | with_reducible refine VC.skip ?_
    | with_reducible refine VC.block ?_
    | with_reducible refine VC.blk ?_
    | (refine VC.exit (by rfl) ?_)
    | (with_reducible refine VC.reg ?_; simp only [cond_or, cond_and, implies_true, imp_self, decide_eq_true_eq, decide_eq_false_iff_not, runOps, runP, actOf, argE, argsE, bound, getE, putD, putE, putR, pruneE, owe, ret1, fit, quot, remd, binR, unR, beqR, beq_self_eq_true, pickB, fillL, setL, SV.cells, vals, subList, cellsLoad, rowLoad, loadR, storeR, faddrR, iaddrR, subR, srcL, apart0, appendR, rowLen, etOf, decs, fieldR, loOf, dstOk, allOne, S0.one, Value.oneCell', ET.enc, ET.sz, ET.dec, ET.dft, word_app, wordT_app, wordS_app, tbl_nil, tbl_cons, Int.toNat_natCast, Int.toNat_zero, Nat.reduceBEq, Nat.reduceBNe, Nat.blt, Nat.ble, cond_true, cond_false, true_and, and_true, forall_const, true_implies, decide_true, decide_false, Bool.and_true, Bool.and_false, Bool.true_and, Bool.false_and, Bool.or_false, Bool.or_true, Bool.true_or, Bool.false_or, reduceCtorEq, List.length_cons, List.length_nil, List.append_nil, List.nil_append, List.cons_append, List.getElem?_cons_zero, List.getElem?_cons_succ, List.getElem?_nil, tupSV, List.map_cons, List.map_nil, List.filterMap_cons, List.filterMap_nil, List.set_cons_zero, List.set_cons_succ, List.drop_zero, List.drop_succ_cons, List.take_succ_cons, List.take_zero, List.take_nil, List.drop_nil, Nat.reduceAdd, Nat.zero_add, Nat.add_zero, Nat.reduceMul, Nat.reduceLT, Nat.reduceLeDiff, bne_self_eq_false, bne_iff_ne, beq_self_eq_true, List.replicate, List.flatten_cons, List.flatten_nil, dite_true, dite_false])
    | (with_reducible refine VC.regD ?_; simp only [runDraw, staticB, S0.ltB, cond_or, cond_and, implies_true, imp_self, decide_eq_true_eq, decide_eq_false_iff_not, runOps, runP, actOf, argE, argsE, bound, getE, putD, putE, putR, pruneE, owe, ret1, fit, quot, remd, binR, unR, beqR, beq_self_eq_true, pickB, fillL, setL, SV.cells, vals, subList, cellsLoad, rowLoad, loadR, storeR, faddrR, iaddrR, subR, srcL, apart0, appendR, rowLen, etOf, decs, fieldR, loOf, dstOk, allOne, S0.one, Value.oneCell', ET.enc, ET.sz, ET.dec, ET.dft, word_app, wordT_app, wordS_app, tbl_nil, tbl_cons, Int.toNat_natCast, Int.toNat_zero, Nat.reduceBEq, Nat.reduceBNe, Nat.blt, Nat.ble, cond_true, cond_false, true_and, and_true, forall_const, true_implies, decide_true, decide_false, Bool.and_true, Bool.and_false, Bool.true_and, Bool.false_and, Bool.or_false, Bool.or_true, Bool.true_or, Bool.false_or, reduceCtorEq, List.length_cons, List.length_nil, List.append_nil, List.nil_append, List.cons_append, List.getElem?_cons_zero, List.getElem?_cons_succ, List.getElem?_nil, tupSV, List.map_cons, List.map_nil, List.filterMap_cons, List.filterMap_nil, List.set_cons_zero, List.set_cons_succ, List.drop_zero, List.drop_succ_cons, List.take_succ_cons, List.take_zero, List.take_nil, List.drop_nil, Nat.reduceAdd, Nat.zero_add, Nat.add_zero, Nat.reduceMul, Nat.reduceLT, Nat.reduceLeDiff, bne_self_eq_false, bne_iff_ne, beq_self_eq_true, List.replicate, List.flatten_cons, List.flatten_nil, dite_true, dite_false])
    | (with_reducible refine VC.ret ?_; simp only [FinOK, resE, rvE, mkRes, cond_or, cond_and, implies_true, imp_self, decide_eq_true_eq, decide_eq_false_iff_not, runOps, runP, actOf, argE, argsE, bound, getE, putD, putE, putR, pruneE, owe, ret1, fit, quot, remd, binR, unR, beqR, beq_self_eq_true, pickB, fillL, setL, SV.cells, vals, subList, cellsLoad, rowLoad, loadR, storeR, faddrR, iaddrR, subR, srcL, apart0, appendR, rowLen, etOf, decs, fieldR, loOf, dstOk, allOne, S0.one, Value.oneCell', ET.enc, ET.sz, ET.dec, ET.dft, word_app, wordT_app, wordS_app, tbl_nil, tbl_cons, Int.toNat_natCast, Int.toNat_zero, Nat.reduceBEq, Nat.reduceBNe, Nat.blt, Nat.ble, cond_true, cond_false, true_and, and_true, forall_const, true_implies, decide_true, decide_false, Bool.and_true, Bool.and_false, Bool.true_and, Bool.false_and, Bool.or_false, Bool.or_true, Bool.true_or, Bool.false_or, reduceCtorEq, List.length_cons, List.length_nil, List.append_nil, List.nil_append, List.cons_append, List.getElem?_cons_zero, List.getElem?_cons_succ, List.getElem?_nil, tupSV, List.map_cons, List.map_nil, List.filterMap_cons, List.filterMap_nil, List.set_cons_zero, List.set_cons_succ, List.drop_zero, List.drop_succ_cons, List.take_succ_cons, List.take_zero, List.take_nil, List.drop_nil, Nat.reduceAdd, Nat.zero_add, Nat.add_zero, Nat.reduceMul, Nat.reduceLT, Nat.reduceLeDiff, bne_self_eq_false, bne_iff_ne, beq_self_eq_true, List.replicate, List.flatten_cons, List.flatten_nil, dite_true, dite_false])
    | with_reducible refine VC.mid ?_
    | (refine And.intro (by first | omega | (unfold InI64; omega) | (intros; simp_all; done) | (intros; simp_all [InI64, InI32]; omega)) ?_))
  refine VC.loop (fun k : Nat => ⟨[(0, True, valSV (.string (s.extract k s.size))), (1, True, valSV (.int .u8 b)), (4, True, valSV (.string ⟨#[]⟩))], []⟩) (fun k => k ≤ s.size ∧ leadB s b k = leadB s b 0) (fun k => s.size - k) 0 [] [] ⟨by omega, rfl⟩ ?_ ?_
  · simp only [Weak, weakSl, weakHp, sameSB, eqSV, eqSC, eqL, eqS0, nils,  SV.ren, SC.ren, S0.ren, SV.ltB, SC.ltB, S0.ltB, nodupB, List.contains_nil, List.contains_cons, Bool.not_false, Bool.not_true, List.take_nil, List.range_zero, List.all_nil, List.all_cons, List.getD_cons_zero, List.getD_cons_succ, dite_true, valSV, cond_or, cond_and, implies_true, imp_self, decide_eq_true_eq, decide_eq_false_iff_not, runOps, runP, actOf, argE, argsE, bound, getE, putD, putE, putR, pruneE, owe, ret1, fit, quot, remd, binR, unR, beqR, beq_self_eq_true, pickB, fillL, setL, SV.cells, vals, subList, cellsLoad, rowLoad, loadR, storeR, faddrR, iaddrR, subR, srcL, apart0, appendR, rowLen, etOf, decs, fieldR, loOf, dstOk, allOne, S0.one, Value.oneCell', ET.enc, ET.sz, ET.dec, ET.dft, word_app, wordT_app, wordS_app, tbl_nil, tbl_cons, Int.toNat_natCast, Int.toNat_zero, Nat.reduceBEq, Nat.reduceBNe, Nat.blt, Nat.ble, cond_true, cond_false, true_and, and_true, forall_const, true_implies, decide_true, decide_false, Bool.and_true, Bool.and_false, Bool.true_and, Bool.false_and, Bool.or_false, Bool.or_true, Bool.true_or, Bool.false_or, reduceCtorEq, List.length_cons, List.length_nil, List.append_nil, List.nil_append, List.cons_append, List.getElem?_cons_zero, List.getElem?_cons_succ, List.getElem?_nil, tupSV, List.map_cons, List.map_nil, List.filterMap_cons, List.filterMap_nil, List.set_cons_zero, List.set_cons_succ, List.drop_zero, List.drop_succ_cons, List.take_succ_cons, List.take_zero, List.take_nil, List.drop_nil, Nat.reduceAdd, Nat.zero_add, Nat.add_zero, Nat.reduceMul, Nat.reduceLT, Nat.reduceLeDiff, bne_self_eq_false, bne_iff_ne, beq_self_eq_true, List.replicate, List.flatten_cons, List.flatten_nil, dite_true, dite_false, all_of]
  · rintro k ⟨hk, hl⟩
    have hz := tail_size s k
    have hb := bAt_tail s k 0 (by omega)
    simp only [Int.add_zero] at hb
    simp only [valSV]
    cases hq : decide (k < s.size) && decide (bAt s k = b)
    · have hn : ¬ (k < s.size ∧ bAt s k = b) := by simpa using hq
      repeat' (first
    | with_reducible refine VC.seq ?_
    | with_reducible refine VC.skip ?_
    | with_reducible refine VC.block ?_
    | with_reducible refine VC.blk ?_
    | (refine VC.exit (by rfl) ?_)
    | (with_reducible refine VC.reg ?_; simp only [cond_or, cond_and, implies_true, imp_self, decide_eq_true_eq, decide_eq_false_iff_not, runOps, runP, actOf, argE, argsE, bound, getE, putD, putE, putR, pruneE, owe, ret1, fit, quot, remd, binR, unR, beqR, beq_self_eq_true, pickB, fillL, setL, SV.cells, vals, subList, cellsLoad, rowLoad, loadR, storeR, faddrR, iaddrR, subR, srcL, apart0, appendR, rowLen, etOf, decs, fieldR, loOf, dstOk, allOne, S0.one, Value.oneCell', ET.enc, ET.sz, ET.dec, ET.dft, word_app, wordT_app, wordS_app, tbl_nil, tbl_cons, Int.toNat_natCast, Int.toNat_zero, Nat.reduceBEq, Nat.reduceBNe, Nat.blt, Nat.ble, cond_true, cond_false, true_and, and_true, forall_const, true_implies, decide_true, decide_false, Bool.and_true, Bool.and_false, Bool.true_and, Bool.false_and, Bool.or_false, Bool.or_true, Bool.true_or, Bool.false_or, reduceCtorEq, List.length_cons, List.length_nil, List.append_nil, List.nil_append, List.cons_append, List.getElem?_cons_zero, List.getElem?_cons_succ, List.getElem?_nil, tupSV, List.map_cons, List.map_nil, List.filterMap_cons, List.filterMap_nil, List.set_cons_zero, List.set_cons_succ, List.drop_zero, List.drop_succ_cons, List.take_succ_cons, List.take_zero, List.take_nil, List.drop_nil, Nat.reduceAdd, Nat.zero_add, Nat.add_zero, Nat.reduceMul, Nat.reduceLT, Nat.reduceLeDiff, bne_self_eq_false, bne_iff_ne, beq_self_eq_true, List.replicate, List.flatten_cons, List.flatten_nil, dite_true, dite_false])
    | (with_reducible refine VC.regD ?_; simp only [runDraw, staticB, S0.ltB, cond_or, cond_and, implies_true, imp_self, decide_eq_true_eq, decide_eq_false_iff_not, runOps, runP, actOf, argE, argsE, bound, getE, putD, putE, putR, pruneE, owe, ret1, fit, quot, remd, binR, unR, beqR, beq_self_eq_true, pickB, fillL, setL, SV.cells, vals, subList, cellsLoad, rowLoad, loadR, storeR, faddrR, iaddrR, subR, srcL, apart0, appendR, rowLen, etOf, decs, fieldR, loOf, dstOk, allOne, S0.one, Value.oneCell', ET.enc, ET.sz, ET.dec, ET.dft, word_app, wordT_app, wordS_app, tbl_nil, tbl_cons, Int.toNat_natCast, Int.toNat_zero, Nat.reduceBEq, Nat.reduceBNe, Nat.blt, Nat.ble, cond_true, cond_false, true_and, and_true, forall_const, true_implies, decide_true, decide_false, Bool.and_true, Bool.and_false, Bool.true_and, Bool.false_and, Bool.or_false, Bool.or_true, Bool.true_or, Bool.false_or, reduceCtorEq, List.length_cons, List.length_nil, List.append_nil, List.nil_append, List.cons_append, List.getElem?_cons_zero, List.getElem?_cons_succ, List.getElem?_nil, tupSV, List.map_cons, List.map_nil, List.filterMap_cons, List.filterMap_nil, List.set_cons_zero, List.set_cons_succ, List.drop_zero, List.drop_succ_cons, List.take_succ_cons, List.take_zero, List.take_nil, List.drop_nil, Nat.reduceAdd, Nat.zero_add, Nat.add_zero, Nat.reduceMul, Nat.reduceLT, Nat.reduceLeDiff, bne_self_eq_false, bne_iff_ne, beq_self_eq_true, List.replicate, List.flatten_cons, List.flatten_nil, dite_true, dite_false])
    | (with_reducible refine VC.ret ?_; simp only [FinOK, resE, rvE, mkRes, cond_or, cond_and, implies_true, imp_self, decide_eq_true_eq, decide_eq_false_iff_not, runOps, runP, actOf, argE, argsE, bound, getE, putD, putE, putR, pruneE, owe, ret1, fit, quot, remd, binR, unR, beqR, beq_self_eq_true, pickB, fillL, setL, SV.cells, vals, subList, cellsLoad, rowLoad, loadR, storeR, faddrR, iaddrR, subR, srcL, apart0, appendR, rowLen, etOf, decs, fieldR, loOf, dstOk, allOne, S0.one, Value.oneCell', ET.enc, ET.sz, ET.dec, ET.dft, word_app, wordT_app, wordS_app, tbl_nil, tbl_cons, Int.toNat_natCast, Int.toNat_zero, Nat.reduceBEq, Nat.reduceBNe, Nat.blt, Nat.ble, cond_true, cond_false, true_and, and_true, forall_const, true_implies, decide_true, decide_false, Bool.and_true, Bool.and_false, Bool.true_and, Bool.false_and, Bool.or_false, Bool.or_true, Bool.true_or, Bool.false_or, reduceCtorEq, List.length_cons, List.length_nil, List.append_nil, List.nil_append, List.cons_append, List.getElem?_cons_zero, List.getElem?_cons_succ, List.getElem?_nil, tupSV, List.map_cons, List.map_nil, List.filterMap_cons, List.filterMap_nil, List.set_cons_zero, List.set_cons_succ, List.drop_zero, List.drop_succ_cons, List.take_succ_cons, List.take_zero, List.take_nil, List.drop_nil, Nat.reduceAdd, Nat.zero_add, Nat.add_zero, Nat.reduceMul, Nat.reduceLT, Nat.reduceLeDiff, bne_self_eq_false, bne_iff_ne, beq_self_eq_true, List.replicate, List.flatten_cons, List.flatten_nil, dite_true, dite_false])
    | with_reducible refine VC.mid ?_
    | (refine And.intro (by first | omega | (unfold InI64; omega) | (intros; simp_all; done) | (intros; simp_all [InI64, InI32]; omega)) ?_)
    | (refine VC.condT (by rfl) (fun h => ?_) (fun h => ?_) <;> (try (cases h; done)) <;> (try simp only [decide_eq_true_eq, decide_eq_false_iff_not, Bool.and_eq_true, Bool.or_eq_true, Bool.and_eq_false_iff, Bool.or_eq_false_iff, Bool.not_eq_true', Bool.not_eq_false', not_true_eq_false, not_false_eq_true, or_false, or_true, false_or, true_or, and_true, true_and, and_false, false_and] at h) <;> (try (simp only [*, reduceCtorEq] at h; done)) <;> (try (exfalso; omega; done))))
      rw [trimL, ← hl, leadB_no hn]
    · have hy : k < s.size ∧ bAt s k = b := by simpa using hq
      have hll := leadB_yes hy
      repeat' (first
    | with_reducible refine VC.seq ?_
    | with_reducible refine VC.skip ?_
    | with_reducible refine VC.block ?_
    | with_reducible refine VC.blk ?_
    | (refine VC.exit (by rfl) ?_)
    | (with_reducible refine VC.reg ?_; simp only [cond_or, cond_and, implies_true, imp_self, decide_eq_true_eq, decide_eq_false_iff_not, runOps, runP, actOf, argE, argsE, bound, getE, putD, putE, putR, pruneE, owe, ret1, fit, quot, remd, binR, unR, beqR, beq_self_eq_true, pickB, fillL, setL, SV.cells, vals, subList, cellsLoad, rowLoad, loadR, storeR, faddrR, iaddrR, subR, srcL, apart0, appendR, rowLen, etOf, decs, fieldR, loOf, dstOk, allOne, S0.one, Value.oneCell', ET.enc, ET.sz, ET.dec, ET.dft, word_app, wordT_app, wordS_app, tbl_nil, tbl_cons, Int.toNat_natCast, Int.toNat_zero, Nat.reduceBEq, Nat.reduceBNe, Nat.blt, Nat.ble, cond_true, cond_false, true_and, and_true, forall_const, true_implies, decide_true, decide_false, Bool.and_true, Bool.and_false, Bool.true_and, Bool.false_and, Bool.or_false, Bool.or_true, Bool.true_or, Bool.false_or, reduceCtorEq, List.length_cons, List.length_nil, List.append_nil, List.nil_append, List.cons_append, List.getElem?_cons_zero, List.getElem?_cons_succ, List.getElem?_nil, tupSV, List.map_cons, List.map_nil, List.filterMap_cons, List.filterMap_nil, List.set_cons_zero, List.set_cons_succ, List.drop_zero, List.drop_succ_cons, List.take_succ_cons, List.take_zero, List.take_nil, List.drop_nil, Nat.reduceAdd, Nat.zero_add, Nat.add_zero, Nat.reduceMul, Nat.reduceLT, Nat.reduceLeDiff, bne_self_eq_false, bne_iff_ne, beq_self_eq_true, List.replicate, List.flatten_cons, List.flatten_nil, dite_true, dite_false])
    | (with_reducible refine VC.regD ?_; simp only [runDraw, staticB, S0.ltB, cond_or, cond_and, implies_true, imp_self, decide_eq_true_eq, decide_eq_false_iff_not, runOps, runP, actOf, argE, argsE, bound, getE, putD, putE, putR, pruneE, owe, ret1, fit, quot, remd, binR, unR, beqR, beq_self_eq_true, pickB, fillL, setL, SV.cells, vals, subList, cellsLoad, rowLoad, loadR, storeR, faddrR, iaddrR, subR, srcL, apart0, appendR, rowLen, etOf, decs, fieldR, loOf, dstOk, allOne, S0.one, Value.oneCell', ET.enc, ET.sz, ET.dec, ET.dft, word_app, wordT_app, wordS_app, tbl_nil, tbl_cons, Int.toNat_natCast, Int.toNat_zero, Nat.reduceBEq, Nat.reduceBNe, Nat.blt, Nat.ble, cond_true, cond_false, true_and, and_true, forall_const, true_implies, decide_true, decide_false, Bool.and_true, Bool.and_false, Bool.true_and, Bool.false_and, Bool.or_false, Bool.or_true, Bool.true_or, Bool.false_or, reduceCtorEq, List.length_cons, List.length_nil, List.append_nil, List.nil_append, List.cons_append, List.getElem?_cons_zero, List.getElem?_cons_succ, List.getElem?_nil, tupSV, List.map_cons, List.map_nil, List.filterMap_cons, List.filterMap_nil, List.set_cons_zero, List.set_cons_succ, List.drop_zero, List.drop_succ_cons, List.take_succ_cons, List.take_zero, List.take_nil, List.drop_nil, Nat.reduceAdd, Nat.zero_add, Nat.add_zero, Nat.reduceMul, Nat.reduceLT, Nat.reduceLeDiff, bne_self_eq_false, bne_iff_ne, beq_self_eq_true, List.replicate, List.flatten_cons, List.flatten_nil, dite_true, dite_false])
    | (with_reducible refine VC.ret ?_; simp only [FinOK, resE, rvE, mkRes, cond_or, cond_and, implies_true, imp_self, decide_eq_true_eq, decide_eq_false_iff_not, runOps, runP, actOf, argE, argsE, bound, getE, putD, putE, putR, pruneE, owe, ret1, fit, quot, remd, binR, unR, beqR, beq_self_eq_true, pickB, fillL, setL, SV.cells, vals, subList, cellsLoad, rowLoad, loadR, storeR, faddrR, iaddrR, subR, srcL, apart0, appendR, rowLen, etOf, decs, fieldR, loOf, dstOk, allOne, S0.one, Value.oneCell', ET.enc, ET.sz, ET.dec, ET.dft, word_app, wordT_app, wordS_app, tbl_nil, tbl_cons, Int.toNat_natCast, Int.toNat_zero, Nat.reduceBEq, Nat.reduceBNe, Nat.blt, Nat.ble, cond_true, cond_false, true_and, and_true, forall_const, true_implies, decide_true, decide_false, Bool.and_true, Bool.and_false, Bool.true_and, Bool.false_and, Bool.or_false, Bool.or_true, Bool.true_or, Bool.false_or, reduceCtorEq, List.length_cons, List.length_nil, List.append_nil, List.nil_append, List.cons_append, List.getElem?_cons_zero, List.getElem?_cons_succ, List.getElem?_nil, tupSV, List.map_cons, List.map_nil, List.filterMap_cons, List.filterMap_nil, List.set_cons_zero, List.set_cons_succ, List.drop_zero, List.drop_succ_cons, List.take_succ_cons, List.take_zero, List.take_nil, List.drop_nil, Nat.reduceAdd, Nat.zero_add, Nat.add_zero, Nat.reduceMul, Nat.reduceLT, Nat.reduceLeDiff, bne_self_eq_false, bne_iff_ne, beq_self_eq_true, List.replicate, List.flatten_cons, List.flatten_nil, dite_true, dite_false])
    | with_reducible refine VC.mid ?_
    | (refine And.intro (by first | omega | (unfold InI64; omega) | (intros; simp_all; done) | (intros; simp_all [InI64, InI32]; omega)) ?_)
    | (refine VC.condT (by rfl) (fun h => ?_) (fun h => ?_) <;> (try (cases h; done)) <;> (try simp only [decide_eq_true_eq, decide_eq_false_iff_not, Bool.and_eq_true, Bool.or_eq_true, Bool.and_eq_false_iff, Bool.or_eq_false_iff, Bool.not_eq_true', Bool.not_eq_false', not_true_eq_false, not_false_eq_true, or_false, or_true, false_or, true_or, and_true, true_and, and_false, false_and] at h) <;> (try (simp only [*, reduceCtorEq] at h; done)) <;> (try (exfalso; omega; done))))
      · refine ⟨k + 1, [], [], ⟨by omega, by rw [← hll]; exact hl⟩, by omega, ?_⟩
        simp only [Weak, weakSl, weakHp, sameSB, eqSV, eqSC, eqL, eqS0, nils,  SV.ren, SC.ren, S0.ren, SV.ltB, SC.ltB, S0.ltB, nodupB, List.contains_nil, List.contains_cons, Bool.not_false, Bool.not_true, List.take_nil, List.range_zero, List.all_nil, List.all_cons, List.getD_cons_zero, List.getD_cons_succ, dite_true, valSV, cond_or, cond_and, implies_true, imp_self, decide_eq_true_eq, decide_eq_false_iff_not, runOps, runP, actOf, argE, argsE, bound, getE, putD, putE, putR, pruneE, owe, ret1, fit, quot, remd, binR, unR, beqR, beq_self_eq_true, pickB, fillL, setL, SV.cells, vals, subList, cellsLoad, rowLoad, loadR, storeR, faddrR, iaddrR, subR, srcL, apart0, appendR, rowLen, etOf, decs, fieldR, loOf, dstOk, allOne, S0.one, Value.oneCell', ET.enc, ET.sz, ET.dec, ET.dft, word_app, wordT_app, wordS_app, tbl_nil, tbl_cons, Int.toNat_natCast, Int.toNat_zero, Nat.reduceBEq, Nat.reduceBNe, Nat.blt, Nat.ble, cond_true, cond_false, true_and, and_true, forall_const, true_implies, decide_true, decide_false, Bool.and_true, Bool.and_false, Bool.true_and, Bool.false_and, Bool.or_false, Bool.or_true, Bool.true_or, Bool.false_or, reduceCtorEq, List.length_cons, List.length_nil, List.append_nil, List.nil_append, List.cons_append, List.getElem?_cons_zero, List.getElem?_cons_succ, List.getElem?_nil, tupSV, List.map_cons, List.map_nil, List.filterMap_cons, List.filterMap_nil, List.set_cons_zero, List.set_cons_succ, List.drop_zero, List.drop_succ_cons, List.take_succ_cons, List.take_zero, List.take_nil, List.drop_nil, Nat.reduceAdd, Nat.zero_add, Nat.add_zero, Nat.reduceMul, Nat.reduceLT, Nat.reduceLeDiff, bne_self_eq_false, bne_iff_ne, beq_self_eq_true, List.replicate, List.flatten_cons, List.flatten_nil, dite_true, dite_false]
        simp only [Int.reduceToNat, tail_tail]

def trimRightByte_ic : IC :=
  (.seq
  (.reg 4 none [
    ⟨(some 4), .mv (.v (.string ⟨#[]⟩)), none⟩])
  (.seq
  (.block 0
    (.loop
      (.seq
      (.seq
      (.reg 16 none [
        ⟨(some 5), .mv (.t 0), none⟩,
        ⟨(some 6), .lenS (.t 5), none⟩,
        ⟨(some 7), .bin false .gtr (.t 6) (.v (.int .i64 0)), none⟩,
        ⟨(some 8), .mv (.t 7), none⟩,
        ⟨(some 9), .mv (.t 0), some (8, true)⟩,
        ⟨(some 10), .mv (.t 0), some (8, true)⟩,
        ⟨(some 11), .lenS (.t 10), some (8, true)⟩,
        ⟨(some 12), .bin false .sub (.t 11) (.v (.int .i64 1)), some (8, true)⟩,
        ⟨(some 13), .index (.t 9) (.t 12), some (8, true)⟩,
        ⟨(some 14), .mv (.t 1), some (8, true)⟩,
        ⟨(some 15), .bin false .eql (.t 13) (.t 14), some (8, true)⟩,
        ⟨(some 16), .pick (.t 8) (.t 15) (.v (.bool false)), none⟩])
      (.cond (.t 16)
        .skip
        (.exit 0)))
      (.block 1
        (.reg 0 none [
          ⟨(some 17), .mv (.t 0), none⟩,
          ⟨(some 18), .mv (.t 0), none⟩,
          ⟨(some 19), .lenS (.t 18), none⟩,
          ⟨(some 20), .bin false .sub (.t 19) (.v (.int .i64 1)), none⟩,
          ⟨(some 21), .sub none (.t 17) none (some (.t 20)), none⟩,
          ⟨(some 0), .mv (.t 21), none⟩])))))
  (.seq
  (.reg 4 none [
    ⟨(some 22), .mv (.t 0), none⟩,
    ⟨(some 4), .mv (.t 22), none⟩])
  .ret)))
theorem trimRightByte_chk : chk Tryd.prog 63 [] = some (trimRightByte_ic, [.tmp 4], 23) := by kernel_rfl
def trimRightByte_w : List Value → Option (Prop × Value)
  | [.string s, .int .u8 b] => some (s.size < 9223372036854775808, .string (trimR s b))
  | _ => none
theorem trimRightByte_ok : Valid Tryd.prog 63 (word trimRightByte_w) := by
  refine Valid.word fun vs p r hg hp w => ?_
  unfold trimRightByte_w at hg
  split at hg <;> cases hg
  rename_i s b
  refine walk0 trimRightByte_chk 5 (fun _ => none) (fun f C h => by cases h) _ _ (Nat.le_of_ble_eq_true rfl) w ?_
  simp only [trimRightByte_ic, List.map_cons, List.map_nil, valSV, argSl]
  repeat' (first
    | with_reducible refine VC.seq ?_
    | with_reducible refine VC.skip ?_
    | with_reducible refine VC.block ?_
    | with_reducible refine VC.blk ?_
    | (refine VC.exit (by rfl) ?_)
    | (with_reducible refine VC.reg ?_; simp only [cond_or, cond_and, implies_true, imp_self, decide_eq_true_eq, decide_eq_false_iff_not, runOps, runP, actOf, argE, argsE, bound, getE, putD, putE, putR, pruneE, owe, ret1, fit, quot, remd, binR, unR, beqR, beq_self_eq_true, pickB, fillL, setL, SV.cells, vals, subList, cellsLoad, rowLoad, loadR, storeR, faddrR, iaddrR, subR, srcL, apart0, appendR, rowLen, etOf, decs, fieldR, loOf, dstOk, allOne, S0.one, Value.oneCell', ET.enc, ET.sz, ET.dec, ET.dft, word_app, wordT_app, wordS_app, tbl_nil, tbl_cons, Int.toNat_natCast, Int.toNat_zero, Nat.reduceBEq, Nat.reduceBNe, Nat.blt, Nat.ble, cond_true, cond_false, true_and, and_true, forall_const, true_implies, decide_true, decide_false, Bool.and_true, Bool.and_false, Bool.true_and, Bool.false_and, Bool.or_false, Bool.or_true, Bool.true_or, Bool.false_or, reduceCtorEq, List.length_cons, List.length_nil, List.append_nil, List.nil_append, List.cons_append, List.getElem?_cons_zero, List.getElem?_cons_succ, List.getElem?_nil, tupSV, List.map_cons, List.map_nil, List.filterMap_cons, List.filterMap_nil, List.set_cons_zero, List.set_cons_succ, List.drop_zero, List.drop_succ_cons, List.take_succ_cons, List.take_zero, List.take_nil, List.drop_nil, Nat.reduceAdd, Nat.zero_add, Nat.add_zero, Nat.reduceMul, Nat.reduceLT, Nat.reduceLeDiff, bne_self_eq_false, bne_iff_ne, beq_self_eq_true, List.replicate, List.flatten_cons, List.flatten_nil, dite_true, dite_false])
    | (with_reducible refine VC.regD ?_; simp only [runDraw, staticB, S0.ltB, cond_or, cond_and, implies_true, imp_self, decide_eq_true_eq, decide_eq_false_iff_not, runOps, runP, actOf, argE, argsE, bound, getE, putD, putE, putR, pruneE, owe, ret1, fit, quot, remd, binR, unR, beqR, beq_self_eq_true, pickB, fillL, setL, SV.cells, vals, subList, cellsLoad, rowLoad, loadR, storeR, faddrR, iaddrR, subR, srcL, apart0, appendR, rowLen, etOf, decs, fieldR, loOf, dstOk, allOne, S0.one, Value.oneCell', ET.enc, ET.sz, ET.dec, ET.dft, word_app, wordT_app, wordS_app, tbl_nil, tbl_cons, Int.toNat_natCast, Int.toNat_zero, Nat.reduceBEq, Nat.reduceBNe, Nat.blt, Nat.ble, cond_true, cond_false, true_and, and_true, forall_const, true_implies, decide_true, decide_false, Bool.and_true, Bool.and_false, Bool.true_and, Bool.false_and, Bool.or_false, Bool.or_true, Bool.true_or, Bool.false_or, reduceCtorEq, List.length_cons, List.length_nil, List.append_nil, List.nil_append, List.cons_append, List.getElem?_cons_zero, List.getElem?_cons_succ, List.getElem?_nil, tupSV, List.map_cons, List.map_nil, List.filterMap_cons, List.filterMap_nil, List.set_cons_zero, List.set_cons_succ, List.drop_zero, List.drop_succ_cons, List.take_succ_cons, List.take_zero, List.take_nil, List.drop_nil, Nat.reduceAdd, Nat.zero_add, Nat.add_zero, Nat.reduceMul, Nat.reduceLT, Nat.reduceLeDiff, bne_self_eq_false, bne_iff_ne, beq_self_eq_true, List.replicate, List.flatten_cons, List.flatten_nil, dite_true, dite_false])
    | (with_reducible refine VC.ret ?_; simp only [FinOK, resE, rvE, mkRes, cond_or, cond_and, implies_true, imp_self, decide_eq_true_eq, decide_eq_false_iff_not, runOps, runP, actOf, argE, argsE, bound, getE, putD, putE, putR, pruneE, owe, ret1, fit, quot, remd, binR, unR, beqR, beq_self_eq_true, pickB, fillL, setL, SV.cells, vals, subList, cellsLoad, rowLoad, loadR, storeR, faddrR, iaddrR, subR, srcL, apart0, appendR, rowLen, etOf, decs, fieldR, loOf, dstOk, allOne, S0.one, Value.oneCell', ET.enc, ET.sz, ET.dec, ET.dft, word_app, wordT_app, wordS_app, tbl_nil, tbl_cons, Int.toNat_natCast, Int.toNat_zero, Nat.reduceBEq, Nat.reduceBNe, Nat.blt, Nat.ble, cond_true, cond_false, true_and, and_true, forall_const, true_implies, decide_true, decide_false, Bool.and_true, Bool.and_false, Bool.true_and, Bool.false_and, Bool.or_false, Bool.or_true, Bool.true_or, Bool.false_or, reduceCtorEq, List.length_cons, List.length_nil, List.append_nil, List.nil_append, List.cons_append, List.getElem?_cons_zero, List.getElem?_cons_succ, List.getElem?_nil, tupSV, List.map_cons, List.map_nil, List.filterMap_cons, List.filterMap_nil, List.set_cons_zero, List.set_cons_succ, List.drop_zero, List.drop_succ_cons, List.take_succ_cons, List.take_zero, List.take_nil, List.drop_nil, Nat.reduceAdd, Nat.zero_add, Nat.add_zero, Nat.reduceMul, Nat.reduceLT, Nat.reduceLeDiff, bne_self_eq_false, bne_iff_ne, beq_self_eq_true, List.replicate, List.flatten_cons, List.flatten_nil, dite_true, dite_false])
    | with_reducible refine VC.mid ?_
    | (refine And.intro (by first | omega | (unfold InI64; omega) | (intros; simp_all; done) | (intros; simp_all [InI64, InI32]; omega)) ?_))
  refine VC.loop (fun k : Nat => ⟨[(0, True, valSV (.string (s.extract 0 k))), (1, True, valSV (.int .u8 b)), (4, True, valSV (.string ⟨#[]⟩))], []⟩) (fun k => k ≤ s.size ∧ backB s b k = backB s b s.size) (fun k => k) s.size [] [] ⟨by omega, rfl⟩ ?_ ?_
  · simp only [Weak, weakSl, weakHp, sameSB, eqSV, eqSC, eqL, eqS0, nils,  SV.ren, SC.ren, S0.ren, SV.ltB, SC.ltB, S0.ltB, nodupB, List.contains_nil, List.contains_cons, Bool.not_false, Bool.not_true, List.take_nil, List.range_zero, List.all_nil, List.all_cons, List.getD_cons_zero, List.getD_cons_succ, dite_true, valSV, cond_or, cond_and, implies_true, imp_self, decide_eq_true_eq, decide_eq_false_iff_not, runOps, runP, actOf, argE, argsE, bound, getE, putD, putE, putR, pruneE, owe, ret1, fit, quot, remd, binR, unR, beqR, beq_self_eq_true, pickB, fillL, setL, SV.cells, vals, subList, cellsLoad, rowLoad, loadR, storeR, faddrR, iaddrR, subR, srcL, apart0, appendR, rowLen, etOf, decs, fieldR, loOf, dstOk, allOne, S0.one, Value.oneCell', ET.enc, ET.sz, ET.dec, ET.dft, word_app, wordT_app, wordS_app, tbl_nil, tbl_cons, Int.toNat_natCast, Int.toNat_zero, Nat.reduceBEq, Nat.reduceBNe, Nat.blt, Nat.ble, cond_true, cond_false, true_and, and_true, forall_const, true_implies, decide_true, decide_false, Bool.and_true, Bool.and_false, Bool.true_and, Bool.false_and, Bool.or_false, Bool.or_true, Bool.true_or, Bool.false_or, reduceCtorEq, List.length_cons, List.length_nil, List.append_nil, List.nil_append, List.cons_append, List.getElem?_cons_zero, List.getElem?_cons_succ, List.getElem?_nil, tupSV, List.map_cons, List.map_nil, List.filterMap_cons, List.filterMap_nil, List.set_cons_zero, List.set_cons_succ, List.drop_zero, List.drop_succ_cons, List.take_succ_cons, List.take_zero, List.take_nil, List.drop_nil, Nat.reduceAdd, Nat.zero_add, Nat.add_zero, Nat.reduceMul, Nat.reduceLT, Nat.reduceLeDiff, bne_self_eq_false, bne_iff_ne, beq_self_eq_true, List.replicate, List.flatten_cons, List.flatten_nil, dite_true, dite_false, all_of]
  · rintro k ⟨hk, hl⟩
    have hz : (s.extract 0 k).size = k := by rw [ByteArray.size_extract]; omega
    simp only [valSV]
    cases k with
    | zero =>
      repeat' (first
    | with_reducible refine VC.seq ?_
    | with_reducible refine VC.skip ?_
    | with_reducible refine VC.block ?_
    | with_reducible refine VC.blk ?_
    | (refine VC.exit (by rfl) ?_)
    | (with_reducible refine VC.reg ?_; simp only [cond_or, cond_and, implies_true, imp_self, decide_eq_true_eq, decide_eq_false_iff_not, runOps, runP, actOf, argE, argsE, bound, getE, putD, putE, putR, pruneE, owe, ret1, fit, quot, remd, binR, unR, beqR, beq_self_eq_true, pickB, fillL, setL, SV.cells, vals, subList, cellsLoad, rowLoad, loadR, storeR, faddrR, iaddrR, subR, srcL, apart0, appendR, rowLen, etOf, decs, fieldR, loOf, dstOk, allOne, S0.one, Value.oneCell', ET.enc, ET.sz, ET.dec, ET.dft, word_app, wordT_app, wordS_app, tbl_nil, tbl_cons, Int.toNat_natCast, Int.toNat_zero, Nat.reduceBEq, Nat.reduceBNe, Nat.blt, Nat.ble, cond_true, cond_false, true_and, and_true, forall_const, true_implies, decide_true, decide_false, Bool.and_true, Bool.and_false, Bool.true_and, Bool.false_and, Bool.or_false, Bool.or_true, Bool.true_or, Bool.false_or, reduceCtorEq, List.length_cons, List.length_nil, List.append_nil, List.nil_append, List.cons_append, List.getElem?_cons_zero, List.getElem?_cons_succ, List.getElem?_nil, tupSV, List.map_cons, List.map_nil, List.filterMap_cons, List.filterMap_nil, List.set_cons_zero, List.set_cons_succ, List.drop_zero, List.drop_succ_cons, List.take_succ_cons, List.take_zero, List.take_nil, List.drop_nil, Nat.reduceAdd, Nat.zero_add, Nat.add_zero, Nat.reduceMul, Nat.reduceLT, Nat.reduceLeDiff, bne_self_eq_false, bne_iff_ne, beq_self_eq_true, List.replicate, List.flatten_cons, List.flatten_nil, dite_true, dite_false])
    | (with_reducible refine VC.regD ?_; simp only [runDraw, staticB, S0.ltB, cond_or, cond_and, implies_true, imp_self, decide_eq_true_eq, decide_eq_false_iff_not, runOps, runP, actOf, argE, argsE, bound, getE, putD, putE, putR, pruneE, owe, ret1, fit, quot, remd, binR, unR, beqR, beq_self_eq_true, pickB, fillL, setL, SV.cells, vals, subList, cellsLoad, rowLoad, loadR, storeR, faddrR, iaddrR, subR, srcL, apart0, appendR, rowLen, etOf, decs, fieldR, loOf, dstOk, allOne, S0.one, Value.oneCell', ET.enc, ET.sz, ET.dec, ET.dft, word_app, wordT_app, wordS_app, tbl_nil, tbl_cons, Int.toNat_natCast, Int.toNat_zero, Nat.reduceBEq, Nat.reduceBNe, Nat.blt, Nat.ble, cond_true, cond_false, true_and, and_true, forall_const, true_implies, decide_true, decide_false, Bool.and_true, Bool.and_false, Bool.true_and, Bool.false_and, Bool.or_false, Bool.or_true, Bool.true_or, Bool.false_or, reduceCtorEq, List.length_cons, List.length_nil, List.append_nil, List.nil_append, List.cons_append, List.getElem?_cons_zero, List.getElem?_cons_succ, List.getElem?_nil, tupSV, List.map_cons, List.map_nil, List.filterMap_cons, List.filterMap_nil, List.set_cons_zero, List.set_cons_succ, List.drop_zero, List.drop_succ_cons, List.take_succ_cons, List.take_zero, List.take_nil, List.drop_nil, Nat.reduceAdd, Nat.zero_add, Nat.add_zero, Nat.reduceMul, Nat.reduceLT, Nat.reduceLeDiff, bne_self_eq_false, bne_iff_ne, beq_self_eq_true, List.replicate, List.flatten_cons, List.flatten_nil, dite_true, dite_false])
    | (with_reducible refine VC.ret ?_; simp only [FinOK, resE, rvE, mkRes, cond_or, cond_and, implies_true, imp_self, decide_eq_true_eq, decide_eq_false_iff_not, runOps, runP, actOf, argE, argsE, bound, getE, putD, putE, putR, pruneE, owe, ret1, fit, quot, remd, binR, unR, beqR, beq_self_eq_true, pickB, fillL, setL, SV.cells, vals, subList, cellsLoad, rowLoad, loadR, storeR, faddrR, iaddrR, subR, srcL, apart0, appendR, rowLen, etOf, decs, fieldR, loOf, dstOk, allOne, S0.one, Value.oneCell', ET.enc, ET.sz, ET.dec, ET.dft, word_app, wordT_app, wordS_app, tbl_nil, tbl_cons, Int.toNat_natCast, Int.toNat_zero, Nat.reduceBEq, Nat.reduceBNe, Nat.blt, Nat.ble, cond_true, cond_false, true_and, and_true, forall_const, true_implies, decide_true, decide_false, Bool.and_true, Bool.and_false, Bool.true_and, Bool.false_and, Bool.or_false, Bool.or_true, Bool.true_or, Bool.false_or, reduceCtorEq, List.length_cons, List.length_nil, List.append_nil, List.nil_append, List.cons_append, List.getElem?_cons_zero, List.getElem?_cons_succ, List.getElem?_nil, tupSV, List.map_cons, List.map_nil, List.filterMap_cons, List.filterMap_nil, List.set_cons_zero, List.set_cons_succ, List.drop_zero, List.drop_succ_cons, List.take_succ_cons, List.take_zero, List.take_nil, List.drop_nil, Nat.reduceAdd, Nat.zero_add, Nat.add_zero, Nat.reduceMul, Nat.reduceLT, Nat.reduceLeDiff, bne_self_eq_false, bne_iff_ne, beq_self_eq_true, List.replicate, List.flatten_cons, List.flatten_nil, dite_true, dite_false])
    | with_reducible refine VC.mid ?_
    | (refine And.intro (by first | omega | (unfold InI64; omega) | (intros; simp_all; done) | (intros; simp_all [InI64, InI32]; omega)) ?_)
    | (refine VC.condT (by rfl) (fun h => ?_) (fun h => ?_) <;> (try (cases h; done)) <;> (try simp only [decide_eq_true_eq, decide_eq_false_iff_not, Bool.and_eq_true, Bool.or_eq_true, Bool.and_eq_false_iff, Bool.or_eq_false_iff, Bool.not_eq_true', Bool.not_eq_false', not_true_eq_false, not_false_eq_true, or_false, or_true, false_or, true_or, and_true, true_and, and_false, false_and] at h) <;> (try (simp only [*, reduceCtorEq] at h; done)) <;> (try (exfalso; omega; done))))
      rw [trimR, ← hl]
      rfl
    | succ n =>
      have hb : bAt (s.extract 0 (n + 1)) (((s.extract 0 (n + 1)).size : Int) - 1) = bAt s n := by
        rw [hz, bAt_extract s 0 (n + 1) _ (by omega) (by omega)]
        congr 1
        omega
      cases hq : decide (bAt s n = b)
      · have hn : ¬ bAt s n = b := by simpa using hq
        repeat' (first
    | with_reducible refine VC.seq ?_
    | with_reducible refine VC.skip ?_
    | with_reducible refine VC.block ?_
    | with_reducible refine VC.blk ?_
    | (refine VC.exit (by rfl) ?_)
    | (with_reducible refine VC.reg ?_; simp only [cond_or, cond_and, implies_true, imp_self, decide_eq_true_eq, decide_eq_false_iff_not, runOps, runP, actOf, argE, argsE, bound, getE, putD, putE, putR, pruneE, owe, ret1, fit, quot, remd, binR, unR, beqR, beq_self_eq_true, pickB, fillL, setL, SV.cells, vals, subList, cellsLoad, rowLoad, loadR, storeR, faddrR, iaddrR, subR, srcL, apart0, appendR, rowLen, etOf, decs, fieldR, loOf, dstOk, allOne, S0.one, Value.oneCell', ET.enc, ET.sz, ET.dec, ET.dft, word_app, wordT_app, wordS_app, tbl_nil, tbl_cons, Int.toNat_natCast, Int.toNat_zero, Nat.reduceBEq, Nat.reduceBNe, Nat.blt, Nat.ble, cond_true, cond_false, true_and, and_true, forall_const, true_implies, decide_true, decide_false, Bool.and_true, Bool.and_false, Bool.true_and, Bool.false_and, Bool.or_false, Bool.or_true, Bool.true_or, Bool.false_or, reduceCtorEq, List.length_cons, List.length_nil, List.append_nil, List.nil_append, List.cons_append, List.getElem?_cons_zero, List.getElem?_cons_succ, List.getElem?_nil, tupSV, List.map_cons, List.map_nil, List.filterMap_cons, List.filterMap_nil, List.set_cons_zero, List.set_cons_succ, List.drop_zero, List.drop_succ_cons, List.take_succ_cons, List.take_zero, List.take_nil, List.drop_nil, Nat.reduceAdd, Nat.zero_add, Nat.add_zero, Nat.reduceMul, Nat.reduceLT, Nat.reduceLeDiff, bne_self_eq_false, bne_iff_ne, beq_self_eq_true, List.replicate, List.flatten_cons, List.flatten_nil, dite_true, dite_false])
    | (with_reducible refine VC.regD ?_; simp only [runDraw, staticB, S0.ltB, cond_or, cond_and, implies_true, imp_self, decide_eq_true_eq, decide_eq_false_iff_not, runOps, runP, actOf, argE, argsE, bound, getE, putD, putE, putR, pruneE, owe, ret1, fit, quot, remd, binR, unR, beqR, beq_self_eq_true, pickB, fillL, setL, SV.cells, vals, subList, cellsLoad, rowLoad, loadR, storeR, faddrR, iaddrR, subR, srcL, apart0, appendR, rowLen, etOf, decs, fieldR, loOf, dstOk, allOne, S0.one, Value.oneCell', ET.enc, ET.sz, ET.dec, ET.dft, word_app, wordT_app, wordS_app, tbl_nil, tbl_cons, Int.toNat_natCast, Int.toNat_zero, Nat.reduceBEq, Nat.reduceBNe, Nat.blt, Nat.ble, cond_true, cond_false, true_and, and_true, forall_const, true_implies, decide_true, decide_false, Bool.and_true, Bool.and_false, Bool.true_and, Bool.false_and, Bool.or_false, Bool.or_true, Bool.true_or, Bool.false_or, reduceCtorEq, List.length_cons, List.length_nil, List.append_nil, List.nil_append, List.cons_append, List.getElem?_cons_zero, List.getElem?_cons_succ, List.getElem?_nil, tupSV, List.map_cons, List.map_nil, List.filterMap_cons, List.filterMap_nil, List.set_cons_zero, List.set_cons_succ, List.drop_zero, List.drop_succ_cons, List.take_succ_cons, List.take_zero, List.take_nil, List.drop_nil, Nat.reduceAdd, Nat.zero_add, Nat.add_zero, Nat.reduceMul, Nat.reduceLT, Nat.reduceLeDiff, bne_self_eq_false, bne_iff_ne, beq_self_eq_true, List.replicate, List.flatten_cons, List.flatten_nil, dite_true, dite_false])
    | (with_reducible refine VC.ret ?_; simp only [FinOK, resE, rvE, mkRes, cond_or, cond_and, implies_true, imp_self, decide_eq_true_eq, decide_eq_false_iff_not, runOps, runP, actOf, argE, argsE, bound, getE, putD, putE, putR, pruneE, owe, ret1, fit, quot, remd, binR, unR, beqR, beq_self_eq_true, pickB, fillL, setL, SV.cells, vals, subList, cellsLoad, rowLoad, loadR, storeR, faddrR, iaddrR, subR, srcL, apart0, appendR, rowLen, etOf, decs, fieldR, loOf, dstOk, allOne, S0.one, Value.oneCell', ET.enc, ET.sz, ET.dec, ET.dft, word_app, wordT_app, wordS_app, tbl_nil, tbl_cons, Int.toNat_natCast, Int.toNat_zero, Nat.reduceBEq, Nat.reduceBNe, Nat.blt, Nat.ble, cond_true, cond_false, true_and, and_true, forall_const, true_implies, decide_true, decide_false, Bool.and_true, Bool.and_false, Bool.true_and, Bool.false_and, Bool.or_false, Bool.or_true, Bool.true_or, Bool.false_or, reduceCtorEq, List.length_cons, List.length_nil, List.append_nil, List.nil_append, List.cons_append, List.getElem?_cons_zero, List.getElem?_cons_succ, List.getElem?_nil, tupSV, List.map_cons, List.map_nil, List.filterMap_cons, List.filterMap_nil, List.set_cons_zero, List.set_cons_succ, List.drop_zero, List.drop_succ_cons, List.take_succ_cons, List.take_zero, List.take_nil, List.drop_nil, Nat.reduceAdd, Nat.zero_add, Nat.add_zero, Nat.reduceMul, Nat.reduceLT, Nat.reduceLeDiff, bne_self_eq_false, bne_iff_ne, beq_self_eq_true, List.replicate, List.flatten_cons, List.flatten_nil, dite_true, dite_false])
    | with_reducible refine VC.mid ?_
    | (refine And.intro (by first | omega | (unfold InI64; omega) | (intros; simp_all; done) | (intros; simp_all [InI64, InI32]; omega)) ?_)
    | (refine VC.condT (by rfl) (fun h => ?_) (fun h => ?_) <;> (try (cases h; done)) <;> (try simp only [decide_eq_true_eq, decide_eq_false_iff_not, Bool.and_eq_true, Bool.or_eq_true, Bool.and_eq_false_iff, Bool.or_eq_false_iff, Bool.not_eq_true', Bool.not_eq_false', not_true_eq_false, not_false_eq_true, or_false, or_true, false_or, true_or, and_true, true_and, and_false, false_and] at h) <;> (try (simp only [*, reduceCtorEq] at h; done)) <;> (try (exfalso; omega; done))))
        rw [trimR, ← hl, backB, if_neg hn]
      · have hy : bAt s n = b := by simpa using hq
        repeat' (first
    | with_reducible refine VC.seq ?_
    | with_reducible refine VC.skip ?_
    | with_reducible refine VC.block ?_
    | with_reducible refine VC.blk ?_
    | (refine VC.exit (by rfl) ?_)
    | (with_reducible refine VC.reg ?_; simp only [cond_or, cond_and, implies_true, imp_self, decide_eq_true_eq, decide_eq_false_iff_not, runOps, runP, actOf, argE, argsE, bound, getE, putD, putE, putR, pruneE, owe, ret1, fit, quot, remd, binR, unR, beqR, beq_self_eq_true, pickB, fillL, setL, SV.cells, vals, subList, cellsLoad, rowLoad, loadR, storeR, faddrR, iaddrR, subR, srcL, apart0, appendR, rowLen, etOf, decs, fieldR, loOf, dstOk, allOne, S0.one, Value.oneCell', ET.enc, ET.sz, ET.dec, ET.dft, word_app, wordT_app, wordS_app, tbl_nil, tbl_cons, Int.toNat_natCast, Int.toNat_zero, Nat.reduceBEq, Nat.reduceBNe, Nat.blt, Nat.ble, cond_true, cond_false, true_and, and_true, forall_const, true_implies, decide_true, decide_false, Bool.and_true, Bool.and_false, Bool.true_and, Bool.false_and, Bool.or_false, Bool.or_true, Bool.true_or, Bool.false_or, reduceCtorEq, List.length_cons, List.length_nil, List.append_nil, List.nil_append, List.cons_append, List.getElem?_cons_zero, List.getElem?_cons_succ, List.getElem?_nil, tupSV, List.map_cons, List.map_nil, List.filterMap_cons, List.filterMap_nil, List.set_cons_zero, List.set_cons_succ, List.drop_zero, List.drop_succ_cons, List.take_succ_cons, List.take_zero, List.take_nil, List.drop_nil, Nat.reduceAdd, Nat.zero_add, Nat.add_zero, Nat.reduceMul, Nat.reduceLT, Nat.reduceLeDiff, bne_self_eq_false, bne_iff_ne, beq_self_eq_true, List.replicate, List.flatten_cons, List.flatten_nil, dite_true, dite_false])
    | (with_reducible refine VC.regD ?_; simp only [runDraw, staticB, S0.ltB, cond_or, cond_and, implies_true, imp_self, decide_eq_true_eq, decide_eq_false_iff_not, runOps, runP, actOf, argE, argsE, bound, getE, putD, putE, putR, pruneE, owe, ret1, fit, quot, remd, binR, unR, beqR, beq_self_eq_true, pickB, fillL, setL, SV.cells, vals, subList, cellsLoad, rowLoad, loadR, storeR, faddrR, iaddrR, subR, srcL, apart0, appendR, rowLen, etOf, decs, fieldR, loOf, dstOk, allOne, S0.one, Value.oneCell', ET.enc, ET.sz, ET.dec, ET.dft, word_app, wordT_app, wordS_app, tbl_nil, tbl_cons, Int.toNat_natCast, Int.toNat_zero, Nat.reduceBEq, Nat.reduceBNe, Nat.blt, Nat.ble, cond_true, cond_false, true_and, and_true, forall_const, true_implies, decide_true, decide_false, Bool.and_true, Bool.and_false, Bool.true_and, Bool.false_and, Bool.or_false, Bool.or_true, Bool.true_or, Bool.false_or, reduceCtorEq, List.length_cons, List.length_nil, List.append_nil, List.nil_append, List.cons_append, List.getElem?_cons_zero, List.getElem?_cons_succ, List.getElem?_nil, tupSV, List.map_cons, List.map_nil, List.filterMap_cons, List.filterMap_nil, List.set_cons_zero, List.set_cons_succ, List.drop_zero, List.drop_succ_cons, List.take_succ_cons, List.take_zero, List.take_nil, List.drop_nil, Nat.reduceAdd, Nat.zero_add, Nat.add_zero, Nat.reduceMul, Nat.reduceLT, Nat.reduceLeDiff, bne_self_eq_false, bne_iff_ne, beq_self_eq_true, List.replicate, List.flatten_cons, List.flatten_nil, dite_true, dite_false])
    | (with_reducible refine VC.ret ?_; simp only [FinOK, resE, rvE, mkRes, cond_or, cond_and, implies_true, imp_self, decide_eq_true_eq, decide_eq_false_iff_not, runOps, runP, actOf, argE, argsE, bound, getE, putD, putE, putR, pruneE, owe, ret1, fit, quot, remd, binR, unR, beqR, beq_self_eq_true, pickB, fillL, setL, SV.cells, vals, subList, cellsLoad, rowLoad, loadR, storeR, faddrR, iaddrR, subR, srcL, apart0, appendR, rowLen, etOf, decs, fieldR, loOf, dstOk, allOne, S0.one, Value.oneCell', ET.enc, ET.sz, ET.dec, ET.dft, word_app, wordT_app, wordS_app, tbl_nil, tbl_cons, Int.toNat_natCast, Int.toNat_zero, Nat.reduceBEq, Nat.reduceBNe, Nat.blt, Nat.ble, cond_true, cond_false, true_and, and_true, forall_const, true_implies, decide_true, decide_false, Bool.and_true, Bool.and_false, Bool.true_and, Bool.false_and, Bool.or_false, Bool.or_true, Bool.true_or, Bool.false_or, reduceCtorEq, List.length_cons, List.length_nil, List.append_nil, List.nil_append, List.cons_append, List.getElem?_cons_zero, List.getElem?_cons_succ, List.getElem?_nil, tupSV, List.map_cons, List.map_nil, List.filterMap_cons, List.filterMap_nil, List.set_cons_zero, List.set_cons_succ, List.drop_zero, List.drop_succ_cons, List.take_succ_cons, List.take_zero, List.take_nil, List.drop_nil, Nat.reduceAdd, Nat.zero_add, Nat.add_zero, Nat.reduceMul, Nat.reduceLT, Nat.reduceLeDiff, bne_self_eq_false, bne_iff_ne, beq_self_eq_true, List.replicate, List.flatten_cons, List.flatten_nil, dite_true, dite_false])
    | with_reducible refine VC.mid ?_
    | (refine And.intro (by first | omega | (unfold InI64; omega) | (intros; simp_all; done) | (intros; simp_all [InI64, InI32]; omega)) ?_)
    | (refine VC.condT (by rfl) (fun h => ?_) (fun h => ?_) <;> (try (cases h; done)) <;> (try simp only [decide_eq_true_eq, decide_eq_false_iff_not, Bool.and_eq_true, Bool.or_eq_true, Bool.and_eq_false_iff, Bool.or_eq_false_iff, Bool.not_eq_true', Bool.not_eq_false', not_true_eq_false, not_false_eq_true, or_false, or_true, false_or, true_or, and_true, true_and, and_false, false_and] at h) <;> (try (simp only [*, reduceCtorEq] at h; done)) <;> (try (exfalso; omega; done))))
        refine ⟨n, [], [], ⟨by omega, by rw [← hl, backB, if_pos hy]⟩, by omega, ?_⟩
        simp only [Weak, weakSl, weakHp, sameSB, eqSV, eqSC, eqL, eqS0, nils,  SV.ren, SC.ren, S0.ren, SV.ltB, SC.ltB, S0.ltB, nodupB, List.contains_nil, List.contains_cons, Bool.not_false, Bool.not_true, List.take_nil, List.range_zero, List.all_nil, List.all_cons, List.getD_cons_zero, List.getD_cons_succ, dite_true, valSV, cond_or, cond_and, implies_true, imp_self, decide_eq_true_eq, decide_eq_false_iff_not, runOps, runP, actOf, argE, argsE, bound, getE, putD, putE, putR, pruneE, owe, ret1, fit, quot, remd, binR, unR, beqR, beq_self_eq_true, pickB, fillL, setL, SV.cells, vals, subList, cellsLoad, rowLoad, loadR, storeR, faddrR, iaddrR, subR, srcL, apart0, appendR, rowLen, etOf, decs, fieldR, loOf, dstOk, allOne, S0.one, Value.oneCell', ET.enc, ET.sz, ET.dec, ET.dft, word_app, wordT_app, wordS_app, tbl_nil, tbl_cons, Int.toNat_natCast, Int.toNat_zero, Nat.reduceBEq, Nat.reduceBNe, Nat.blt, Nat.ble, cond_true, cond_false, true_and, and_true, forall_const, true_implies, decide_true, decide_false, Bool.and_true, Bool.and_false, Bool.true_and, Bool.false_and, Bool.or_false, Bool.or_true, Bool.true_or, Bool.false_or, reduceCtorEq, List.length_cons, List.length_nil, List.append_nil, List.nil_append, List.cons_append, List.getElem?_cons_zero, List.getElem?_cons_succ, List.getElem?_nil, tupSV, List.map_cons, List.map_nil, List.filterMap_cons, List.filterMap_nil, List.set_cons_zero, List.set_cons_succ, List.drop_zero, List.drop_succ_cons, List.take_succ_cons, List.take_zero, List.take_nil, List.drop_nil, Nat.reduceAdd, Nat.zero_add, Nat.add_zero, Nat.reduceMul, Nat.reduceLT, Nat.reduceLeDiff, bne_self_eq_false, bne_iff_ne, beq_self_eq_true, List.replicate, List.flatten_cons, List.flatten_nil, dite_true, dite_false]
        rw [hz, ByteArray.extract_extract]
        congr 3
        omega

def trimLeft_ic : IC :=
  (.seq
  (.reg 4 none [
    ⟨(some 4), .mv (.v (.string ⟨#[]⟩)), none⟩])
  (.seq
  (.seq
  (.reg 12 none [
    ⟨(some 7), .mv (.t 0), none⟩,
    ⟨(some 8), .bin false .eql (.t 7) (.v (.string ⟨#[]⟩)), none⟩,
    ⟨(some 9), .mv (.t 8), none⟩,
    ⟨(some 10), .mv (.t 1), some (9, false)⟩,
    ⟨(some 11), .bin false .eql (.t 10) (.v (.string ⟨#[]⟩)), some (9, false)⟩,
    ⟨(some 12), .pick (.t 9) (.v (.bool true)) (.t 11), none⟩])
  (.cond (.t 12)
    (.seq
    (.reg 4 none [
      ⟨(some 13), .mv (.t 0), none⟩,
      ⟨(some 4), .mv (.t 13), none⟩])
    .ret)
    .skip))
  (.seq
  (.seq
  (.reg 21 none [
    ⟨(some 14), .mv (.t 1), none⟩,
    ⟨(some 15), .lenS (.t 14), none⟩,
    ⟨(some 16), .bin false .eql (.t 15) (.v (.int .i64 1)), none⟩,
    ⟨(some 17), .mv (.t 16), none⟩,
    ⟨(some 18), .mv (.t 1), some (17, true)⟩,
    ⟨(some 19), .index (.t 18) (.v (.int .i64 0)), some (17, true)⟩,
    ⟨(some 20), .bin false .lss (.t 19) (.v (.int .u8 128)), some (17, true)⟩,
    ⟨(some 21), .pick (.t 17) (.t 20) (.v (.bool false)), none⟩])
  (.cond (.t 21)
    (.seq
    (.reg 4 none [
      ⟨(some 22), .mv (.t 0), none⟩,
      ⟨(some 23), .mv (.t 1), none⟩,
      ⟨(some 24), .index (.t 23) (.v (.int .i64 0)), none⟩,
      ⟨(some 25), .call 68 [(.t 22), (.t 24)], none⟩,
      ⟨(some 4), .mv (.t 25), none⟩])
    .ret)
    .skip))
  (.seq
  (.seq
  (.reg 6 none [
    ⟨(some 27), .mv (.t 1), none⟩,
    ⟨(some 28), .call 64 [(.t 27)], none⟩,
    ⟨(some 26), .mv (.t 28), none⟩,
    ⟨(some 29), .extract (.t 26) 0, none⟩,
    ⟨(some 30), .extract (.t 26) 1, none⟩,
    ⟨(some 5), .alloc 93 [.bool false, .bool false, .bool false, .bool false, .bool false, .bool false, .bool false, .bool false, .bool false, .bool false, .bool false, .bool false, .bool false, .bool false, .bool false, .bool false, .bool false, .bool false, .bool false, .bool false, .bool false, .bool false, .bool false, .bool false, .bool false, .bool false, .bool false, .bool false, .bool false, .bool false, .bool false, .bool false, .bool false, .bool false, .bool false, .bool false, .bool false, .bool false, .bool false, .bool false, .bool false, .bool false, .bool false, .bool false, .bool false, .bool false, .bool false, .bool false, .bool false, .bool false, .bool false, .bool false, .bool false, .bool false, .bool false, .bool false, .bool false, .bool false, .bool false, .bool false, .bool false, .bool false, .bool false, .bool false, .bool false, .bool false, .bool false, .bool false, .bool false, .bool false, .bool false, .bool false, .bool false, .bool false, .bool false, .bool false, .bool false, .bool false, .bool false, .bool false, .bool false, .bool false, .bool false, .bool false, .bool false, .bool false, .bool false, .bool false, .bool false, .bool false, .bool false, .bool false, .bool false, .bool false, .bool false, .bool false, .bool false, .bool false, .bool false, .bool false, .bool false, .bool false, .bool false, .bool false, .bool false, .bool false, .bool false, .bool false, .bool false, .bool false, .bool false, .bool false, .bool false, .bool false, .bool false, .bool false, .bool false, .bool false, .bool false, .bool false, .bool false, .bool false, .bool false, .bool false, .bool false, .bool false, .bool false, .bool false, .bool false, .bool false, .bool false, .bool false, .bool false, .bool false, .bool false, .bool false, .bool false, .bool false, .bool false, .bool false, .bool false, .bool false, .bool false, .bool false, .bool false, .bool false, .bool false, .bool false, .bool false, .bool false, .bool false, .bool false, .bool false, .bool false, .bool false, .bool false, .bool false, .bool false, .bool false, .bool false, .bool false, .bool false, .bool false, .bool false, .bool false, .bool false, .bool false, .bool false, .bool false, .bool false, .bool false, .bool false, .bool false, .bool false, .bool false, .bool false, .bool false, .bool false, .bool false, .bool false, .bool false, .bool false, .bool false, .bool false, .bool false, .bool false, .bool false, .bool false, .bool false, .bool false, .bool false, .bool false, .bool false, .bool false, .bool false, .bool false, .bool false, .bool false, .bool false, .bool false, .bool false, .bool false, .bool false, .bool false, .bool false, .bool false, .bool false, .bool false, .bool false, .bool false, .bool false, .bool false, .bool false, .bool false, .bool false, .bool false, .bool false, .bool false, .bool false, .bool false, .bool false, .bool false, .bool false, .bool false, .bool false, .bool false, .bool false, .bool false, .bool false, .bool false, .bool false, .bool false, .bool false, .bool false, .bool false, .bool false, .bool false, .bool false, .bool false, .bool false, .bool false, .bool false, .bool false, .bool false, .bool false, .bool false, .bool false, .bool false, .bool false, .bool false, .bool false, .bool false, .bool false, .bool false, .bool false, .bool false], none⟩,
    ⟨none, .store 256 (.t 5) (.t 29), none⟩,
    ⟨(some 6), .mv (.t 30), none⟩])
  (.seq
  (.reg 31 none [
    ⟨(some 31), .mv (.t 6), none⟩])
  (.cond (.t 31)
    (.seq
    (.reg 4 none [
      ⟨(some 32), .mv (.t 0), none⟩,
      ⟨(some 33), .call 69 [(.t 32), (.t 5)], none⟩,
      ⟨(some 4), .mv (.t 33), none⟩])
    .ret)
    .skip)))
  (.seq
  (.reg 4 none [
    ⟨(some 34), .mv (.t 0), none⟩,
    ⟨(some 35), .mv (.t 1), none⟩,
    ⟨(some 36), .call 70 [(.t 34), (.t 35)], none⟩,
    ⟨(some 4), .mv (.t 36), none⟩])
  .ret)))))
theorem trimLeft_chk : chk Tryd.prog 52 [] = some (trimLeft_ic, [.tmp 4], 37) := by kernel_rfl
def trimLeft_w : List Value → Option (Prop × Value)
  | [.string s, .string c] => some (s.size < 9223372036854775808 ∧ c.size = 1 ∧ bAt c 0 < 128, .string (trimL s (bAt c 0)))
  | _ => none
set_option maxRecDepth 100000 in
theorem trimLeft_ok : Valid Tryd.prog 52 (word trimLeft_w) := by
  refine Valid.word fun vs p r hg hp w => ?_
  unfold trimLeft_w at hg
  split at hg <;> cases hg
  rename_i s c
  obtain ⟨hsz, hc1, hc2⟩ := hp
  have hc0 : 0 ≤ bAt c 0 := bAt_nn (by omega) (by omega)
  have hcn : ¬ c = ⟨#[]⟩ := fun e => by rw [e] at hc1; cases hc1
  have hG := tbl_valid (P := Tryd.prog) (l := [(68, word trimLeftByte_w)]) ⟨trimLeftByte_ok, trivial⟩
  refine walk0 trimLeft_chk 7 _ hG _ _ (Nat.le_of_ble_eq_true rfl) w ?_
  simp only [trimLeft_ic, List.map_cons, List.map_nil, valSV, argSl]
  repeat' (first
    | with_reducible refine VC.seq ?_
    | with_reducible refine VC.skip ?_
    | with_reducible refine VC.block ?_
    | with_reducible refine VC.blk ?_
    | (refine VC.exit (by rfl) ?_)
    | (with_reducible refine VC.reg ?_; simp only [cond_or, cond_and, implies_true, imp_self, decide_eq_true_eq, decide_eq_false_iff_not, runOps, runP, actOf, argE, argsE, bound, getE, putD, putE, putR, pruneE, owe, ret1, fit, quot, remd, binR, unR, beqR, beq_self_eq_true, pickB, fillL, setL, SV.cells, vals, subList, cellsLoad, rowLoad, loadR, storeR, faddrR, iaddrR, subR, srcL, apart0, appendR, rowLen, etOf, decs, fieldR, loOf, dstOk, allOne, S0.one, Value.oneCell', ET.enc, ET.sz, ET.dec, ET.dft, word_app, wordT_app, wordS_app, tbl_nil, tbl_cons, Int.toNat_natCast, Int.toNat_zero, Nat.reduceBEq, Nat.reduceBNe, Nat.blt, Nat.ble, cond_true, cond_false, true_and, and_true, forall_const, true_implies, decide_true, decide_false, Bool.and_true, Bool.and_false, Bool.true_and, Bool.false_and, Bool.or_false, Bool.or_true, Bool.true_or, Bool.false_or, reduceCtorEq, List.length_cons, List.length_nil, List.append_nil, List.nil_append, List.cons_append, List.getElem?_cons_zero, List.getElem?_cons_succ, List.getElem?_nil, tupSV, List.map_cons, List.map_nil, List.filterMap_cons, List.filterMap_nil, List.set_cons_zero, List.set_cons_succ, List.drop_zero, List.drop_succ_cons, List.take_succ_cons, List.take_zero, List.take_nil, List.drop_nil, Nat.reduceAdd, Nat.zero_add, Nat.add_zero, Nat.reduceMul, Nat.reduceLT, Nat.reduceLeDiff, bne_self_eq_false, bne_iff_ne, beq_self_eq_true, List.replicate, List.flatten_cons, List.flatten_nil, dite_true, dite_false])
    | (with_reducible refine VC.regD ?_; simp only [runDraw, staticB, S0.ltB, cond_or, cond_and, implies_true, imp_self, decide_eq_true_eq, decide_eq_false_iff_not, runOps, runP, actOf, argE, argsE, bound, getE, putD, putE, putR, pruneE, owe, ret1, fit, quot, remd, binR, unR, beqR, beq_self_eq_true, pickB, fillL, setL, SV.cells, vals, subList, cellsLoad, rowLoad, loadR, storeR, faddrR, iaddrR, subR, srcL, apart0, appendR, rowLen, etOf, decs, fieldR, loOf, dstOk, allOne, S0.one, Value.oneCell', ET.enc, ET.sz, ET.dec, ET.dft, word_app, wordT_app, wordS_app, tbl_nil, tbl_cons, Int.toNat_natCast, Int.toNat_zero, Nat.reduceBEq, Nat.reduceBNe, Nat.blt, Nat.ble, cond_true, cond_false, true_and, and_true, forall_const, true_implies, decide_true, decide_false, Bool.and_true, Bool.and_false, Bool.true_and, Bool.false_and, Bool.or_false, Bool.or_true, Bool.true_or, Bool.false_or, reduceCtorEq, List.length_cons, List.length_nil, List.append_nil, List.nil_append, List.cons_append, List.getElem?_cons_zero, List.getElem?_cons_succ, List.getElem?_nil, tupSV, List.map_cons, List.map_nil, List.filterMap_cons, List.filterMap_nil, List.set_cons_zero, List.set_cons_succ, List.drop_zero, List.drop_succ_cons, List.take_succ_cons, List.take_zero, List.take_nil, List.drop_nil, Nat.reduceAdd, Nat.zero_add, Nat.add_zero, Nat.reduceMul, Nat.reduceLT, Nat.reduceLeDiff, bne_self_eq_false, bne_iff_ne, beq_self_eq_true, List.replicate, List.flatten_cons, List.flatten_nil, dite_true, dite_false])
    | (with_reducible refine VC.ret ?_; simp only [FinOK, resE, rvE, mkRes, cond_or, cond_and, implies_true, imp_self, decide_eq_true_eq, decide_eq_false_iff_not, runOps, runP, actOf, argE, argsE, bound, getE, putD, putE, putR, pruneE, owe, ret1, fit, quot, remd, binR, unR, beqR, beq_self_eq_true, pickB, fillL, setL, SV.cells, vals, subList, cellsLoad, rowLoad, loadR, storeR, faddrR, iaddrR, subR, srcL, apart0, appendR, rowLen, etOf, decs, fieldR, loOf, dstOk, allOne, S0.one, Value.oneCell', ET.enc, ET.sz, ET.dec, ET.dft, word_app, wordT_app, wordS_app, tbl_nil, tbl_cons, Int.toNat_natCast, Int.toNat_zero, Nat.reduceBEq, Nat.reduceBNe, Nat.blt, Nat.ble, cond_true, cond_false, true_and, and_true, forall_const, true_implies, decide_true, decide_false, Bool.and_true, Bool.and_false, Bool.true_and, Bool.false_and, Bool.or_false, Bool.or_true, Bool.true_or, Bool.false_or, reduceCtorEq, List.length_cons, List.length_nil, List.append_nil, List.nil_append, List.cons_append, List.getElem?_cons_zero, List.getElem?_cons_succ, List.getElem?_nil, tupSV, List.map_cons, List.map_nil, List.filterMap_cons, List.filterMap_nil, List.set_cons_zero, List.set_cons_succ, List.drop_zero, List.drop_succ_cons, List.take_succ_cons, List.take_zero, List.take_nil, List.drop_nil, Nat.reduceAdd, Nat.zero_add, Nat.add_zero, Nat.reduceMul, Nat.reduceLT, Nat.reduceLeDiff, bne_self_eq_false, bne_iff_ne, beq_self_eq_true, List.replicate, List.flatten_cons, List.flatten_nil, dite_true, dite_false])
    | with_reducible refine VC.mid ?_
    | (refine And.intro (by first | omega | (unfold InI64; omega) | (intros; simp_all; done) | (intros; simp_all [InI64, InI32]; omega)) ?_))
  by_cases he : s = ⟨#[]⟩
  · have ht : trimL s (bAt c 0) = s := by
      have hs := eq_none.1 he
      rw [he]
      refine eq_none.2 ?_
      rw [trimL, ByteArray.size_extract]
      have : (⟨#[]⟩ : ByteArray).size = 0 := rfl
      omega
    simp only [he, hcn, decide_true, decide_false, Bool.or_false, Bool.true_or]
    refine VC.condT (by rfl) (fun _ => ?_) (fun h => by cases h)
    repeat' (first
    | with_reducible refine VC.seq ?_
    | with_reducible refine VC.skip ?_
    | with_reducible refine VC.block ?_
    | with_reducible refine VC.blk ?_
    | (refine VC.exit (by rfl) ?_)
    | (with_reducible refine VC.reg ?_; simp only [cond_or, cond_and, implies_true, imp_self, decide_eq_true_eq, decide_eq_false_iff_not, runOps, runP, actOf, argE, argsE, bound, getE, putD, putE, putR, pruneE, owe, ret1, fit, quot, remd, binR, unR, beqR, beq_self_eq_true, pickB, fillL, setL, SV.cells, vals, subList, cellsLoad, rowLoad, loadR, storeR, faddrR, iaddrR, subR, srcL, apart0, appendR, rowLen, etOf, decs, fieldR, loOf, dstOk, allOne, S0.one, Value.oneCell', ET.enc, ET.sz, ET.dec, ET.dft, word_app, wordT_app, wordS_app, tbl_nil, tbl_cons, Int.toNat_natCast, Int.toNat_zero, Nat.reduceBEq, Nat.reduceBNe, Nat.blt, Nat.ble, cond_true, cond_false, true_and, and_true, forall_const, true_implies, decide_true, decide_false, Bool.and_true, Bool.and_false, Bool.true_and, Bool.false_and, Bool.or_false, Bool.or_true, Bool.true_or, Bool.false_or, reduceCtorEq, List.length_cons, List.length_nil, List.append_nil, List.nil_append, List.cons_append, List.getElem?_cons_zero, List.getElem?_cons_succ, List.getElem?_nil, tupSV, List.map_cons, List.map_nil, List.filterMap_cons, List.filterMap_nil, List.set_cons_zero, List.set_cons_succ, List.drop_zero, List.drop_succ_cons, List.take_succ_cons, List.take_zero, List.take_nil, List.drop_nil, Nat.reduceAdd, Nat.zero_add, Nat.add_zero, Nat.reduceMul, Nat.reduceLT, Nat.reduceLeDiff, bne_self_eq_false, bne_iff_ne, beq_self_eq_true, List.replicate, List.flatten_cons, List.flatten_nil, dite_true, dite_false])
    | (with_reducible refine VC.regD ?_; simp only [runDraw, staticB, S0.ltB, cond_or, cond_and, implies_true, imp_self, decide_eq_true_eq, decide_eq_false_iff_not, runOps, runP, actOf, argE, argsE, bound, getE, putD, putE, putR, pruneE, owe, ret1, fit, quot, remd, binR, unR, beqR, beq_self_eq_true, pickB, fillL, setL, SV.cells, vals, subList, cellsLoad, rowLoad, loadR, storeR, faddrR, iaddrR, subR, srcL, apart0, appendR, rowLen, etOf, decs, fieldR, loOf, dstOk, allOne, S0.one, Value.oneCell', ET.enc, ET.sz, ET.dec, ET.dft, word_app, wordT_app, wordS_app, tbl_nil, tbl_cons, Int.toNat_natCast, Int.toNat_zero, Nat.reduceBEq, Nat.reduceBNe, Nat.blt, Nat.ble, cond_true, cond_false, true_and, and_true, forall_const, true_implies, decide_true, decide_false, Bool.and_true, Bool.and_false, Bool.true_and, Bool.false_and, Bool.or_false, Bool.or_true, Bool.true_or, Bool.false_or, reduceCtorEq, List.length_cons, List.length_nil, List.append_nil, List.nil_append, List.cons_append, List.getElem?_cons_zero, List.getElem?_cons_succ, List.getElem?_nil, tupSV, List.map_cons, List.map_nil, List.filterMap_cons, List.filterMap_nil, List.set_cons_zero, List.set_cons_succ, List.drop_zero, List.drop_succ_cons, List.take_succ_cons, List.take_zero, List.take_nil, List.drop_nil, Nat.reduceAdd, Nat.zero_add, Nat.add_zero, Nat.reduceMul, Nat.reduceLT, Nat.reduceLeDiff, bne_self_eq_false, bne_iff_ne, beq_self_eq_true, List.replicate, List.flatten_cons, List.flatten_nil, dite_true, dite_false])
    | (with_reducible refine VC.ret ?_; simp only [FinOK, resE, rvE, mkRes, cond_or, cond_and, implies_true, imp_self, decide_eq_true_eq, decide_eq_false_iff_not, runOps, runP, actOf, argE, argsE, bound, getE, putD, putE, putR, pruneE, owe, ret1, fit, quot, remd, binR, unR, beqR, beq_self_eq_true, pickB, fillL, setL, SV.cells, vals, subList, cellsLoad, rowLoad, loadR, storeR, faddrR, iaddrR, subR, srcL, apart0, appendR, rowLen, etOf, decs, fieldR, loOf, dstOk, allOne, S0.one, Value.oneCell', ET.enc, ET.sz, ET.dec, ET.dft, word_app, wordT_app, wordS_app, tbl_nil, tbl_cons, Int.toNat_natCast, Int.toNat_zero, Nat.reduceBEq, Nat.reduceBNe, Nat.blt, Nat.ble, cond_true, cond_false, true_and, and_true, forall_const, true_implies, decide_true, decide_false, Bool.and_true, Bool.and_false, Bool.true_and, Bool.false_and, Bool.or_false, Bool.or_true, Bool.true_or, Bool.false_or, reduceCtorEq, List.length_cons, List.length_nil, List.append_nil, List.nil_append, List.cons_append, List.getElem?_cons_zero, List.getElem?_cons_succ, List.getElem?_nil, tupSV, List.map_cons, List.map_nil, List.filterMap_cons, List.filterMap_nil, List.set_cons_zero, List.set_cons_succ, List.drop_zero, List.drop_succ_cons, List.take_succ_cons, List.take_zero, List.take_nil, List.drop_nil, Nat.reduceAdd, Nat.zero_add, Nat.add_zero, Nat.reduceMul, Nat.reduceLT, Nat.reduceLeDiff, bne_self_eq_false, bne_iff_ne, beq_self_eq_true, List.replicate, List.flatten_cons, List.flatten_nil, dite_true, dite_false])
    | with_reducible refine VC.mid ?_
    | (refine And.intro (by first | omega | (unfold InI64; omega) | (intros; simp_all; done) | (intros; simp_all [InI64, InI32]; omega)) ?_)
    | (refine VC.condT (by rfl) (fun h => ?_) (fun h => ?_) <;> (try (cases h; done)) <;> (try simp only [decide_eq_true_eq, decide_eq_false_iff_not, Bool.and_eq_true, Bool.or_eq_true, Bool.and_eq_false_iff, Bool.or_eq_false_iff, Bool.not_eq_true', Bool.not_eq_false', not_true_eq_false, not_false_eq_true, or_false, or_true, false_or, true_or, and_true, true_and, and_false, false_and] at h) <;> (try (simp only [*, reduceCtorEq] at h; done)) <;> (try (exfalso; omega; done))))
    rw [← he, ht]
  · simp only [he, hcn, decide_false, Bool.or_false]
    refine VC.condT (by rfl) (fun h => by cases h) (fun _ => ?_)
    repeat' (first
    | with_reducible refine VC.seq ?_
    | with_reducible refine VC.skip ?_
    | with_reducible refine VC.block ?_
    | with_reducible refine VC.blk ?_
    | (refine VC.exit (by rfl) ?_)
    | (with_reducible refine VC.reg ?_; simp only [cond_or, cond_and, implies_true, imp_self, decide_eq_true_eq, decide_eq_false_iff_not, runOps, runP, actOf, argE, argsE, bound, getE, putD, putE, putR, pruneE, owe, ret1, fit, quot, remd, binR, unR, beqR, beq_self_eq_true, pickB, fillL, setL, SV.cells, vals, subList, cellsLoad, rowLoad, loadR, storeR, faddrR, iaddrR, subR, srcL, apart0, appendR, rowLen, etOf, decs, fieldR, loOf, dstOk, allOne, S0.one, Value.oneCell', ET.enc, ET.sz, ET.dec, ET.dft, word_app, wordT_app, wordS_app, tbl_nil, tbl_cons, Int.toNat_natCast, Int.toNat_zero, Nat.reduceBEq, Nat.reduceBNe, Nat.blt, Nat.ble, cond_true, cond_false, true_and, and_true, forall_const, true_implies, decide_true, decide_false, Bool.and_true, Bool.and_false, Bool.true_and, Bool.false_and, Bool.or_false, Bool.or_true, Bool.true_or, Bool.false_or, reduceCtorEq, List.length_cons, List.length_nil, List.append_nil, List.nil_append, List.cons_append, List.getElem?_cons_zero, List.getElem?_cons_succ, List.getElem?_nil, tupSV, List.map_cons, List.map_nil, List.filterMap_cons, List.filterMap_nil, List.set_cons_zero, List.set_cons_succ, List.drop_zero, List.drop_succ_cons, List.take_succ_cons, List.take_zero, List.take_nil, List.drop_nil, Nat.reduceAdd, Nat.zero_add, Nat.add_zero, Nat.reduceMul, Nat.reduceLT, Nat.reduceLeDiff, bne_self_eq_false, bne_iff_ne, beq_self_eq_true, List.replicate, List.flatten_cons, List.flatten_nil, dite_true, dite_false])
    | (with_reducible refine VC.regD ?_; simp only [runDraw, staticB, S0.ltB, cond_or, cond_and, implies_true, imp_self, decide_eq_true_eq, decide_eq_false_iff_not, runOps, runP, actOf, argE, argsE, bound, getE, putD, putE, putR, pruneE, owe, ret1, fit, quot, remd, binR, unR, beqR, beq_self_eq_true, pickB, fillL, setL, SV.cells, vals, subList, cellsLoad, rowLoad, loadR, storeR, faddrR, iaddrR, subR, srcL, apart0, appendR, rowLen, etOf, decs, fieldR, loOf, dstOk, allOne, S0.one, Value.oneCell', ET.enc, ET.sz, ET.dec, ET.dft, word_app, wordT_app, wordS_app, tbl_nil, tbl_cons, Int.toNat_natCast, Int.toNat_zero, Nat.reduceBEq, Nat.reduceBNe, Nat.blt, Nat.ble, cond_true, cond_false, true_and, and_true, forall_const, true_implies, decide_true, decide_false, Bool.and_true, Bool.and_false, Bool.true_and, Bool.false_and, Bool.or_false, Bool.or_true, Bool.true_or, Bool.false_or, reduceCtorEq, List.length_cons, List.length_nil, List.append_nil, List.nil_append, List.cons_append, List.getElem?_cons_zero, List.getElem?_cons_succ, List.getElem?_nil, tupSV, List.map_cons, List.map_nil, List.filterMap_cons, List.filterMap_nil, List.set_cons_zero, List.set_cons_succ, List.drop_zero, List.drop_succ_cons, List.take_succ_cons, List.take_zero, List.take_nil, List.drop_nil, Nat.reduceAdd, Nat.zero_add, Nat.add_zero, Nat.reduceMul, Nat.reduceLT, Nat.reduceLeDiff, bne_self_eq_false, bne_iff_ne, beq_self_eq_true, List.replicate, List.flatten_cons, List.flatten_nil, dite_true, dite_false])
    | (with_reducible refine VC.ret ?_; simp only [FinOK, resE, rvE, mkRes, cond_or, cond_and, implies_true, imp_self, decide_eq_true_eq, decide_eq_false_iff_not, runOps, runP, actOf, argE, argsE, bound, getE, putD, putE, putR, pruneE, owe, ret1, fit, quot, remd, binR, unR, beqR, beq_self_eq_true, pickB, fillL, setL, SV.cells, vals, subList, cellsLoad, rowLoad, loadR, storeR, faddrR, iaddrR, subR, srcL, apart0, appendR, rowLen, etOf, decs, fieldR, loOf, dstOk, allOne, S0.one, Value.oneCell', ET.enc, ET.sz, ET.dec, ET.dft, word_app, wordT_app, wordS_app, tbl_nil, tbl_cons, Int.toNat_natCast, Int.toNat_zero, Nat.reduceBEq, Nat.reduceBNe, Nat.blt, Nat.ble, cond_true, cond_false, true_and, and_true, forall_const, true_implies, decide_true, decide_false, Bool.and_true, Bool.and_false, Bool.true_and, Bool.false_and, Bool.or_false, Bool.or_true, Bool.true_or, Bool.false_or, reduceCtorEq, List.length_cons, List.length_nil, List.append_nil, List.nil_append, List.cons_append, List.getElem?_cons_zero, List.getElem?_cons_succ, List.getElem?_nil, tupSV, List.map_cons, List.map_nil, List.filterMap_cons, List.filterMap_nil, List.set_cons_zero, List.set_cons_succ, List.drop_zero, List.drop_succ_cons, List.take_succ_cons, List.take_zero, List.take_nil, List.drop_nil, Nat.reduceAdd, Nat.zero_add, Nat.add_zero, Nat.reduceMul, Nat.reduceLT, Nat.reduceLeDiff, bne_self_eq_false, bne_iff_ne, beq_self_eq_true, List.replicate, List.flatten_cons, List.flatten_nil, dite_true, dite_false])
    | with_reducible refine VC.mid ?_
    | (refine And.intro (by first | omega | (unfold InI64; omega) | (intros; simp_all; done) | (intros; simp_all [InI64, InI32]; omega)) ?_))
    have hq : (decide ((c.size : Int) = 1) && decide (bAt c 0 < 128)) = true := by simp [hc1, hc2]
    rw [hq]
    refine VC.condT (by rfl) (fun _ => ?_) (fun h => by cases h)
    repeat' (first
    | with_reducible refine VC.seq ?_
    | with_reducible refine VC.skip ?_
    | with_reducible refine VC.block ?_
    | with_reducible refine VC.blk ?_
    | (refine VC.exit (by rfl) ?_)
    | (with_reducible refine VC.reg ?_; simp only [cond_or, cond_and, implies_true, imp_self, decide_eq_true_eq, decide_eq_false_iff_not, runOps, runP, actOf, argE, argsE, bound, getE, putD, putE, putR, pruneE, owe, ret1, fit, quot, remd, binR, unR, beqR, beq_self_eq_true, pickB, fillL, setL, SV.cells, vals, subList, cellsLoad, rowLoad, loadR, storeR, faddrR, iaddrR, subR, srcL, apart0, appendR, rowLen, etOf, decs, fieldR, loOf, dstOk, allOne, S0.one, Value.oneCell', ET.enc, ET.sz, ET.dec, ET.dft, word_app, wordT_app, wordS_app, tbl_nil, tbl_cons, Int.toNat_natCast, Int.toNat_zero, Nat.reduceBEq, Nat.reduceBNe, Nat.blt, Nat.ble, cond_true, cond_false, true_and, and_true, forall_const, true_implies, decide_true, decide_false, Bool.and_true, Bool.and_false, Bool.true_and, Bool.false_and, Bool.or_false, Bool.or_true, Bool.true_or, Bool.false_or, reduceCtorEq, List.length_cons, List.length_nil, List.append_nil, List.nil_append, List.cons_append, List.getElem?_cons_zero, List.getElem?_cons_succ, List.getElem?_nil, tupSV, List.map_cons, List.map_nil, List.filterMap_cons, List.filterMap_nil, List.set_cons_zero, List.set_cons_succ, List.drop_zero, List.drop_succ_cons, List.take_succ_cons, List.take_zero, List.take_nil, List.drop_nil, Nat.reduceAdd, Nat.zero_add, Nat.add_zero, Nat.reduceMul, Nat.reduceLT, Nat.reduceLeDiff, bne_self_eq_false, bne_iff_ne, beq_self_eq_true, List.replicate, List.flatten_cons, List.flatten_nil, dite_true, dite_false])
    | (with_reducible refine VC.regD ?_; simp only [runDraw, staticB, S0.ltB, cond_or, cond_and, implies_true, imp_self, decide_eq_true_eq, decide_eq_false_iff_not, runOps, runP, actOf, argE, argsE, bound, getE, putD, putE, putR, pruneE, owe, ret1, fit, quot, remd, binR, unR, beqR, beq_self_eq_true, pickB, fillL, setL, SV.cells, vals, subList, cellsLoad, rowLoad, loadR, storeR, faddrR, iaddrR, subR, srcL, apart0, appendR, rowLen, etOf, decs, fieldR, loOf, dstOk, allOne, S0.one, Value.oneCell', ET.enc, ET.sz, ET.dec, ET.dft, word_app, wordT_app, wordS_app, tbl_nil, tbl_cons, Int.toNat_natCast, Int.toNat_zero, Nat.reduceBEq, Nat.reduceBNe, Nat.blt, Nat.ble, cond_true, cond_false, true_and, and_true, forall_const, true_implies, decide_true, decide_false, Bool.and_true, Bool.and_false, Bool.true_and, Bool.false_and, Bool.or_false, Bool.or_true, Bool.true_or, Bool.false_or, reduceCtorEq, List.length_cons, List.length_nil, List.append_nil, List.nil_append, List.cons_append, List.getElem?_cons_zero, List.getElem?_cons_succ, List.getElem?_nil, tupSV, List.map_cons, List.map_nil, List.filterMap_cons, List.filterMap_nil, List.set_cons_zero, List.set_cons_succ, List.drop_zero, List.drop_succ_cons, List.take_succ_cons, List.take_zero, List.take_nil, List.drop_nil, Nat.reduceAdd, Nat.zero_add, Nat.add_zero, Nat.reduceMul, Nat.reduceLT, Nat.reduceLeDiff, bne_self_eq_false, bne_iff_ne, beq_self_eq_true, List.replicate, List.flatten_cons, List.flatten_nil, dite_true, dite_false])
    | (with_reducible refine VC.ret ?_; simp only [FinOK, resE, rvE, mkRes, cond_or, cond_and, implies_true, imp_self, decide_eq_true_eq, decide_eq_false_iff_not, runOps, runP, actOf, argE, argsE, bound, getE, putD, putE, putR, pruneE, owe, ret1, fit, quot, remd, binR, unR, beqR, beq_self_eq_true, pickB, fillL, setL, SV.cells, vals, subList, cellsLoad, rowLoad, loadR, storeR, faddrR, iaddrR, subR, srcL, apart0, appendR, rowLen, etOf, decs, fieldR, loOf, dstOk, allOne, S0.one, Value.oneCell', ET.enc, ET.sz, ET.dec, ET.dft, word_app, wordT_app, wordS_app, tbl_nil, tbl_cons, Int.toNat_natCast, Int.toNat_zero, Nat.reduceBEq, Nat.reduceBNe, Nat.blt, Nat.ble, cond_true, cond_false, true_and, and_true, forall_const, true_implies, decide_true, decide_false, Bool.and_true, Bool.and_false, Bool.true_and, Bool.false_and, Bool.or_false, Bool.or_true, Bool.true_or, Bool.false_or, reduceCtorEq, List.length_cons, List.length_nil, List.append_nil, List.nil_append, List.cons_append, List.getElem?_cons_zero, List.getElem?_cons_succ, List.getElem?_nil, tupSV, List.map_cons, List.map_nil, List.filterMap_cons, List.filterMap_nil, List.set_cons_zero, List.set_cons_succ, List.drop_zero, List.drop_succ_cons, List.take_succ_cons, List.take_zero, List.take_nil, List.drop_nil, Nat.reduceAdd, Nat.zero_add, Nat.add_zero, Nat.reduceMul, Nat.reduceLT, Nat.reduceLeDiff, bne_self_eq_false, bne_iff_ne, beq_self_eq_true, List.replicate, List.flatten_cons, List.flatten_nil, dite_true, dite_false])
    | with_reducible refine VC.mid ?_
    | (refine And.intro (by first | omega | (unfold InI64; omega) | (intros; simp_all; done) | (intros; simp_all [InI64, InI32]; omega)) ?_)
    | (refine VC.condT (by rfl) (fun h => ?_) (fun h => ?_) <;> (try (cases h; done)) <;> (try simp only [decide_eq_true_eq, decide_eq_false_iff_not, Bool.and_eq_true, Bool.or_eq_true, Bool.and_eq_false_iff, Bool.or_eq_false_iff, Bool.not_eq_true', Bool.not_eq_false', not_true_eq_false, not_false_eq_true, or_false, or_true, false_or, true_or, and_true, true_and, and_false, false_and] at h) <;> (try (simp only [*, reduceCtorEq] at h; done)) <;> (try (exfalso; omega; done))))

def trimRight_ic : IC :=
  (.seq
  (.reg 4 none [
    ⟨(some 4), .mv (.v (.string ⟨#[]⟩)), none⟩])
  (.seq
  (.seq
  (.reg 12 none [
    ⟨(some 7), .mv (.t 0), none⟩,
    ⟨(some 8), .bin false .eql (.t 7) (.v (.string ⟨#[]⟩)), none⟩,
    ⟨(some 9), .mv (.t 8), none⟩,
    ⟨(some 10), .mv (.t 1), some (9, false)⟩,
    ⟨(some 11), .bin false .eql (.t 10) (.v (.string ⟨#[]⟩)), some (9, false)⟩,
    ⟨(some 12), .pick (.t 9) (.v (.bool true)) (.t 11), none⟩])
  (.cond (.t 12)
    (.seq
    (.reg 4 none [
      ⟨(some 13), .mv (.t 0), none⟩,
      ⟨(some 4), .mv (.t 13), none⟩])
    .ret)
    .skip))
  (.seq
  (.seq
  (.reg 21 none [
    ⟨(some 14), .mv (.t 1), none⟩,
    ⟨(some 15), .lenS (.t 14), none⟩,
    ⟨(some 16), .bin false .eql (.t 15) (.v (.int .i64 1)), none⟩,
    ⟨(some 17), .mv (.t 16), none⟩,
    ⟨(some 18), .mv (.t 1), some (17, true)⟩,
    ⟨(some 19), .index (.t 18) (.v (.int .i64 0)), some (17, true)⟩,
    ⟨(some 20), .bin false .lss (.t 19) (.v (.int .u8 128)), some (17, true)⟩,
    ⟨(some 21), .pick (.t 17) (.t 20) (.v (.bool false)), none⟩])
  (.cond (.t 21)
    (.seq
    (.reg 4 none [
      ⟨(some 22), .mv (.t 0), none⟩,
      ⟨(some 23), .mv (.t 1), none⟩,
      ⟨(some 24), .index (.t 23) (.v (.int .i64 0)), none⟩,
      ⟨(some 25), .call 63 [(.t 22), (.t 24)], none⟩,
      ⟨(some 4), .mv (.t 25), none⟩])
    .ret)
    .skip))
  (.seq
  (.seq
  (.reg 6 none [
    ⟨(some 27), .mv (.t 1), none⟩,
    ⟨(some 28), .call 64 [(.t 27)], none⟩,
    ⟨(some 26), .mv (.t 28), none⟩,
    ⟨(some 29), .extract (.t 26) 0, none⟩,
    ⟨(some 30), .extract (.t 26) 1, none⟩,
    ⟨(some 5), .alloc 93 [.bool false, .bool false, .bool false, .bool false, .bool false, .bool false, .bool false, .bool false, .bool false, .bool false, .bool false, .bool false, .bool false, .bool false, .bool false, .bool false, .bool false, .bool false, .bool false, .bool false, .bool false, .bool false, .bool false, .bool false, .bool false, .bool false, .bool false, .bool false, .bool false, .bool false, .bool false, .bool false, .bool false, .bool false, .bool false, .bool false, .bool false, .bool false, .bool false, .bool false, .bool false, .bool false, .bool false, .bool false, .bool false, .bool false, .bool false, .bool false, .bool false, .bool false, .bool false, .bool false, .bool false, .bool false, .bool false, .bool false, .bool false, .bool false, .bool false, .bool false, .bool false, .bool false, .bool false, .bool false, .bool false, .bool false, .bool false, .bool false, .bool false, .bool false, .bool false, .bool false, .bool false, .bool false, .bool false, .bool false, .bool false, .bool false, .bool false, .bool false, .bool false, .bool false, .bool false, .bool false, .bool false, .bool false, .bool false, .bool false, .bool false, .bool false, .bool false, .bool false, .bool false, .bool false, .bool false, .bool false, .bool false, .bool false, .bool false, .bool false, .bool false, .bool false, .bool false, .bool false, .bool false, .bool false, .bool false, .bool false, .bool false, .bool false, .bool false, .bool false, .bool false, .bool false, .bool false, .bool false, .bool false, .bool false, .bool false, .bool false, .bool false, .bool false, .bool false, .bool false, .bool false, .bool false, .bool false, .bool false, .bool false, .bool false, .bool false, .bool false, .bool false, .bool false, .bool false, .bool false, .bool false, .bool false, .bool false, .bool false, .bool false, .bool false, .bool false, .bool false, .bool false, .bool false, .bool false, .bool false, .bool false, .bool false, .bool false, .bool false, .bool false, .bool false, .bool false, .bool false, .bool false, .bool false, .bool false, .bool false, .bool false, .bool false, .bool false, .bool false, .bool false, .bool false, .bool false, .bool false, .bool false, .bool false, .bool false, .bool false, .bool false, .bool false, .bool false, .bool false, .bool false, .bool false, .bool false, .bool false, .bool false, .bool false, .bool false, .bool false, .bool false, .bool false, .bool false, .bool false, .bool false, .bool false, .bool false, .bool false, .bool false, .bool false, .bool false, .bool false, .bool false, .bool false, .bool false, .bool false, .bool false, .bool false, .bool false, .bool false, .bool false, .bool false, .bool false, .bool false, .bool false, .bool false, .bool false, .bool false, .bool false, .bool false, .bool false, .bool false, .bool false, .bool false, .bool false, .bool false, .bool false, .bool false, .bool false, .bool false, .bool false, .bool false, .bool false, .bool false, .bool false, .bool false, .bool false, .bool false, .bool false, .bool false, .bool false, .bool false, .bool false, .bool false, .bool false, .bool false, .bool false, .bool false, .bool false, .bool false, .bool false, .bool false, .bool false, .bool false, .bool false, .bool false, .bool false, .bool false, .bool false, .bool false, .bool false, .bool false], none⟩,
    ⟨none, .store 256 (.t 5) (.t 29), none⟩,
    ⟨(some 6), .mv (.t 30), none⟩])
  (.seq
  (.reg 31 none [
    ⟨(some 31), .mv (.t 6), none⟩])
  (.cond (.t 31)
    (.seq
    (.reg 4 none [
      ⟨(some 32), .mv (.t 0), none⟩,
      ⟨(some 33), .call 65 [(.t 32), (.t 5)], none⟩,
      ⟨(some 4), .mv (.t 33), none⟩])
    .ret)
    .skip)))
  (.seq
  (.reg 4 none [
    ⟨(some 34), .mv (.t 0), none⟩,
    ⟨(some 35), .mv (.t 1), none⟩,
    ⟨(some 36), .call 66 [(.t 34), (.t 35)], none⟩,
    ⟨(some 4), .mv (.t 36), none⟩])
  .ret)))))
theorem trimRight_chk : chk Tryd.prog 49 [] = some (trimRight_ic, [.tmp 4], 37) := by kernel_rfl
def trimRight_w : List Value → Option (Prop × Value)
  | [.string s, .string c] => some (s.size < 9223372036854775808 ∧ c.size = 1 ∧ bAt c 0 < 128, .string (trimR s (bAt c 0)))
  | _ => none
set_option maxRecDepth 100000 in
theorem trimRight_ok : Valid Tryd.prog 49 (word trimRight_w) := by
  refine Valid.word fun vs p r hg hp w => ?_
  unfold trimRight_w at hg
  split at hg <;> cases hg
  rename_i s c
  obtain ⟨hsz, hc1, hc2⟩ := hp
  have hc0 : 0 ≤ bAt c 0 := bAt_nn (by omega) (by omega)
  have hcn : ¬ c = ⟨#[]⟩ := fun e => by rw [e] at hc1; cases hc1
  have hG := tbl_valid (P := Tryd.prog) (l := [(63, word trimRightByte_w)]) ⟨trimRightByte_ok, trivial⟩
  refine walk0 trimRight_chk 7 _ hG _ _ (Nat.le_of_ble_eq_true rfl) w ?_
  simp only [trimRight_ic, List.map_cons, List.map_nil, valSV, argSl]
  repeat' (first
    | with_reducible refine VC.seq ?_
    | with_reducible refine VC.skip ?_
    | with_reducible refine VC.block ?_
    | with_reducible refine VC.blk ?_
    | (refine VC.exit (by rfl) ?_)
    | (with_reducible refine VC.reg ?_; simp only [cond_or, cond_and, implies_true, imp_self, decide_eq_true_eq, decide_eq_false_iff_not, runOps, runP, actOf, argE, argsE, bound, getE, putD, putE, putR, pruneE, owe, ret1, fit, quot, remd, binR, unR, beqR, beq_self_eq_true, pickB, fillL, setL, SV.cells, vals, subList, cellsLoad, rowLoad, loadR, storeR, faddrR, iaddrR, subR, srcL, apart0, appendR, rowLen, etOf, decs, fieldR, loOf, dstOk, allOne, S0.one, Value.oneCell', ET.enc, ET.sz, ET.dec, ET.dft, word_app, wordT_app, wordS_app, tbl_nil, tbl_cons, Int.toNat_natCast, Int.toNat_zero, Nat.reduceBEq, Nat.reduceBNe, Nat.blt, Nat.ble, cond_true, cond_false, true_and, and_true, forall_const, true_implies, decide_true, decide_false, Bool.and_true, Bool.and_false, Bool.true_and, Bool.false_and, Bool.or_false, Bool.or_true, Bool.true_or, Bool.false_or, reduceCtorEq, List.length_cons, List.length_nil, List.append_nil, List.nil_append, List.cons_append, List.getElem?_cons_zero, List.getElem?_cons_succ, List.getElem?_nil, tupSV, List.map_cons, List.map_nil, List.filterMap_cons, List.filterMap_nil, List.set_cons_zero, List.set_cons_succ, List.drop_zero, List.drop_succ_cons, List.take_succ_cons, List.take_zero, List.take_nil, List.drop_nil, Nat.reduceAdd, Nat.zero_add, Nat.add_zero, Nat.reduceMul, Nat.reduceLT, Nat.reduceLeDiff, bne_self_eq_false, bne_iff_ne, beq_self_eq_true, List.replicate, List.flatten_cons, List.flatten_nil, dite_true, dite_false])
    | (with_reducible refine VC.regD ?_; simp only [runDraw, staticB, S0.ltB, cond_or, cond_and, implies_true, imp_self, decide_eq_true_eq, decide_eq_false_iff_not, runOps, runP, actOf, argE, argsE, bound, getE, putD, putE, putR, pruneE, owe, ret1, fit, quot, remd, binR, unR, beqR, beq_self_eq_true, pickB, fillL, setL, SV.cells, vals, subList, cellsLoad, rowLoad, loadR, storeR, faddrR, iaddrR, subR, srcL, apart0, appendR, rowLen, etOf, decs, fieldR, loOf, dstOk, allOne, S0.one, Value.oneCell', ET.enc, ET.sz, ET.dec, ET.dft, word_app, wordT_app, wordS_app, tbl_nil, tbl_cons, Int.toNat_natCast, Int.toNat_zero, Nat.reduceBEq, Nat.reduceBNe, Nat.blt, Nat.ble, cond_true, cond_false, true_and, and_true, forall_const, true_implies, decide_true, decide_false, Bool.and_true, Bool.and_false, Bool.true_and, Bool.false_and, Bool.or_false, Bool.or_true, Bool.true_or, Bool.false_or, reduceCtorEq, List.length_cons, List.length_nil, List.append_nil, List.nil_append, List.cons_append, List.getElem?_cons_zero, List.getElem?_cons_succ, List.getElem?_nil, tupSV, List.map_cons, List.map_nil, List.filterMap_cons, List.filterMap_nil, List.set_cons_zero, List.set_cons_succ, List.drop_zero, List.drop_succ_cons, List.take_succ_cons, List.take_zero, List.take_nil, List.drop_nil, Nat.reduceAdd, Nat.zero_add, Nat.add_zero, Nat.reduceMul, Nat.reduceLT, Nat.reduceLeDiff, bne_self_eq_false, bne_iff_ne, beq_self_eq_true, List.replicate, List.flatten_cons, List.flatten_nil, dite_true, dite_false])
    | (with_reducible refine VC.ret ?_; simp only [FinOK, resE, rvE, mkRes, cond_or, cond_and, implies_true, imp_self, decide_eq_true_eq, decide_eq_false_iff_not, runOps, runP, actOf, argE, argsE, bound, getE, putD, putE, putR, pruneE, owe, ret1, fit, quot, remd, binR, unR, beqR, beq_self_eq_true, pickB, fillL, setL, SV.cells, vals, subList, cellsLoad, rowLoad, loadR, storeR, faddrR, iaddrR, subR, srcL, apart0, appendR, rowLen, etOf, decs, fieldR, loOf, dstOk, allOne, S0.one, Value.oneCell', ET.enc, ET.sz, ET.dec, ET.dft, word_app, wordT_app, wordS_app, tbl_nil, tbl_cons, Int.toNat_natCast, Int.toNat_zero, Nat.reduceBEq, Nat.reduceBNe, Nat.blt, Nat.ble, cond_true, cond_false, true_and, and_true, forall_const, true_implies, decide_true, decide_false, Bool.and_true, Bool.and_false, Bool.true_and, Bool.false_and, Bool.or_false, Bool.or_true, Bool.true_or, Bool.false_or, reduceCtorEq, List.length_cons, List.length_nil, List.append_nil, List.nil_append, List.cons_append, List.getElem?_cons_zero, List.getElem?_cons_succ, List.getElem?_nil, tupSV, List.map_cons, List.map_nil, List.filterMap_cons, List.filterMap_nil, List.set_cons_zero, List.set_cons_succ, List.drop_zero, List.drop_succ_cons, List.take_succ_cons, List.take_zero, List.take_nil, List.drop_nil, Nat.reduceAdd, Nat.zero_add, Nat.add_zero, Nat.reduceMul, Nat.reduceLT, Nat.reduceLeDiff, bne_self_eq_false, bne_iff_ne, beq_self_eq_true, List.replicate, List.flatten_cons, List.flatten_nil, dite_true, dite_false])
    | with_reducible refine VC.mid ?_
    | (refine And.intro (by first | omega | (unfold InI64; omega) | (intros; simp_all; done) | (intros; simp_all [InI64, InI32]; omega)) ?_))
  by_cases he : s = ⟨#[]⟩
  · have ht : trimR s (bAt c 0) = s := by
      have hs := eq_none.1 he
      rw [he]
      refine eq_none.2 ?_
      rw [trimR, ByteArray.size_extract]
      have : (⟨#[]⟩ : ByteArray).size = 0 := rfl
      omega
    simp only [he, hcn, decide_true, decide_false, Bool.or_false, Bool.true_or]
    refine VC.condT (by rfl) (fun _ => ?_) (fun h => by cases h)
    repeat' (first
    | with_reducible refine VC.seq ?_
    | with_reducible refine VC.skip ?_
    | with_reducible refine VC.block ?_
    | with_reducible refine VC.blk ?_
    | (refine VC.exit (by rfl) ?_)
    | (with_reducible refine VC.reg ?_; simp only [cond_or, cond_and, implies_true, imp_self, decide_eq_true_eq, decide_eq_false_iff_not, runOps, runP, actOf, argE, argsE, bound, getE, putD, putE, putR, pruneE, owe, ret1, fit, quot, remd, binR, unR, beqR, beq_self_eq_true, pickB, fillL, setL, SV.cells, vals, subList, cellsLoad, rowLoad, loadR, storeR, faddrR, iaddrR, subR, srcL, apart0, appendR, rowLen, etOf, decs, fieldR, loOf, dstOk, allOne, S0.one, Value.oneCell', ET.enc, ET.sz, ET.dec, ET.dft, word_app, wordT_app, wordS_app, tbl_nil, tbl_cons, Int.toNat_natCast, Int.toNat_zero, Nat.reduceBEq, Nat.reduceBNe, Nat.blt, Nat.ble, cond_true, cond_false, true_and, and_true, forall_const, true_implies, decide_true, decide_false, Bool.and_true, Bool.and_false, Bool.true_and, Bool.false_and, Bool.or_false, Bool.or_true, Bool.true_or, Bool.false_or, reduceCtorEq, List.length_cons, List.length_nil, List.append_nil, List.nil_append, List.cons_append, List.getElem?_cons_zero, List.getElem?_cons_succ, List.getElem?_nil, tupSV, List.map_cons, List.map_nil, List.filterMap_cons, List.filterMap_nil, List.set_cons_zero, List.set_cons_succ, List.drop_zero, List.drop_succ_cons, List.take_succ_cons, List.take_zero, List.take_nil, List.drop_nil, Nat.reduceAdd, Nat.zero_add, Nat.add_zero, Nat.reduceMul, Nat.reduceLT, Nat.reduceLeDiff, bne_self_eq_false, bne_iff_ne, beq_self_eq_true, List.replicate, List.flatten_cons, List.flatten_nil, dite_true, dite_false])
    | (with_reducible refine VC.regD ?_; simp only [runDraw, staticB, S0.ltB, cond_or, cond_and, implies_true, imp_self, decide_eq_true_eq, decide_eq_false_iff_not, runOps, runP, actOf, argE, argsE, bound, getE, putD, putE, putR, pruneE, owe, ret1, fit, quot, remd, binR, unR, beqR, beq_self_eq_true, pickB, fillL, setL, SV.cells, vals, subList, cellsLoad, rowLoad, loadR, storeR, faddrR, iaddrR, subR, srcL, apart0, appendR, rowLen, etOf, decs, fieldR, loOf, dstOk, allOne, S0.one, Value.oneCell', ET.enc, ET.sz, ET.dec, ET.dft, word_app, wordT_app, wordS_app, tbl_nil, tbl_cons, Int.toNat_natCast, Int.toNat_zero, Nat.reduceBEq, Nat.reduceBNe, Nat.blt, Nat.ble, cond_true, cond_false, true_and, and_true, forall_const, true_implies, decide_true, decide_false, Bool.and_true, Bool.and_false, Bool.true_and, Bool.false_and, Bool.or_false, Bool.or_true, Bool.true_or, Bool.false_or, reduceCtorEq, List.length_cons, List.length_nil, List.append_nil, List.nil_append, List.cons_append, List.getElem?_cons_zero, List.getElem?_cons_succ, List.getElem?_nil, tupSV, List.map_cons, List.map_nil, List.filterMap_cons, List.filterMap_nil, List.set_cons_zero, List.set_cons_succ, List.drop_zero, List.drop_succ_cons, List.take_succ_cons, List.take_zero, List.take_nil, List.drop_nil, Nat.reduceAdd, Nat.zero_add, Nat.add_zero, Nat.reduceMul, Nat.reduceLT, Nat.reduceLeDiff, bne_self_eq_false, bne_iff_ne, beq_self_eq_true, List.replicate, List.flatten_cons, List.flatten_nil, dite_true, dite_false])
    | (with_reducible refine VC.ret ?_; simp only [FinOK, resE, rvE, mkRes, cond_or, cond_and, implies_true, imp_self, decide_eq_true_eq, decide_eq_false_iff_not, runOps, runP, actOf, argE, argsE, bound, getE, putD, putE, putR, pruneE, owe, ret1, fit, quot, remd, binR, unR, beqR, beq_self_eq_true, pickB, fillL, setL, SV.cells, vals, subList, cellsLoad, rowLoad, loadR, storeR, faddrR, iaddrR, subR, srcL, apart0, appendR, rowLen, etOf, decs, fieldR, loOf, dstOk, allOne, S0.one, Value.oneCell', ET.enc, ET.sz, ET.dec, ET.dft, word_app, wordT_app, wordS_app, tbl_nil, tbl_cons, Int.toNat_natCast, Int.toNat_zero, Nat.reduceBEq, Nat.reduceBNe, Nat.blt, Nat.ble, cond_true, cond_false, true_and, and_true, forall_const, true_implies, decide_true, decide_false, Bool.and_true, Bool.and_false, Bool.true_and, Bool.false_and, Bool.or_false, Bool.or_true, Bool.true_or, Bool.false_or, reduceCtorEq, List.length_cons, List.length_nil, List.append_nil, List.nil_append, List.cons_append, List.getElem?_cons_zero, List.getElem?_cons_succ, List.getElem?_nil, tupSV, List.map_cons, List.map_nil, List.filterMap_cons, List.filterMap_nil, List.set_cons_zero, List.set_cons_succ, List.drop_zero, List.drop_succ_cons, List.take_succ_cons, List.take_zero, List.take_nil, List.drop_nil, Nat.reduceAdd, Nat.zero_add, Nat.add_zero, Nat.reduceMul, Nat.reduceLT, Nat.reduceLeDiff, bne_self_eq_false, bne_iff_ne, beq_self_eq_true, List.replicate, List.flatten_cons, List.flatten_nil, dite_true, dite_false])
    | with_reducible refine VC.mid ?_
    | (refine And.intro (by first | omega | (unfold InI64; omega) | (intros; simp_all; done) | (intros; simp_all [InI64, InI32]; omega)) ?_)
    | (refine VC.condT (by rfl) (fun h => ?_) (fun h => ?_) <;> (try (cases h; done)) <;> (try simp only [decide_eq_true_eq, decide_eq_false_iff_not, Bool.and_eq_true, Bool.or_eq_true, Bool.and_eq_false_iff, Bool.or_eq_false_iff, Bool.not_eq_true', Bool.not_eq_false', not_true_eq_false, not_false_eq_true, or_false, or_true, false_or, true_or, and_true, true_and, and_false, false_and] at h) <;> (try (simp only [*, reduceCtorEq] at h; done)) <;> (try (exfalso; omega; done))))
    rw [← he, ht]
  · simp only [he, hcn, decide_false, Bool.or_false]
    refine VC.condT (by rfl) (fun h => by cases h) (fun _ => ?_)
    repeat' (first
    | with_reducible refine VC.seq ?_
    | with_reducible refine VC.skip ?_
    | with_reducible refine VC.block ?_
    | with_reducible refine VC.blk ?_
    | (refine VC.exit (by rfl) ?_)
    | (with_reducible refine VC.reg ?_; simp only [cond_or, cond_and, implies_true, imp_self, decide_eq_true_eq, decide_eq_false_iff_not, runOps, runP, actOf, argE, argsE, bound, getE, putD, putE, putR, pruneE, owe, ret1, fit, quot, remd, binR, unR, beqR, beq_self_eq_true, pickB, fillL, setL, SV.cells, vals, subList, cellsLoad, rowLoad, loadR, storeR, faddrR, iaddrR, subR, srcL, apart0, appendR, rowLen, etOf, decs, fieldR, loOf, dstOk, allOne, S0.one, Value.oneCell', ET.enc, ET.sz, ET.dec, ET.dft, word_app, wordT_app, wordS_app, tbl_nil, tbl_cons, Int.toNat_natCast, Int.toNat_zero, Nat.reduceBEq, Nat.reduceBNe, Nat.blt, Nat.ble, cond_true, cond_false, true_and, and_true, forall_const, true_implies, decide_true, decide_false, Bool.and_true, Bool.and_false, Bool.true_and, Bool.false_and, Bool.or_false, Bool.or_true, Bool.true_or, Bool.false_or, reduceCtorEq, List.length_cons, List.length_nil, List.append_nil, List.nil_append, List.cons_append, List.getElem?_cons_zero, List.getElem?_cons_succ, List.getElem?_nil, tupSV, List.map_cons, List.map_nil, List.filterMap_cons, List.filterMap_nil, List.set_cons_zero, List.set_cons_succ, List.drop_zero, List.drop_succ_cons, List.take_succ_cons, List.take_zero, List.take_nil, List.drop_nil, Nat.reduceAdd, Nat.zero_add, Nat.add_zero, Nat.reduceMul, Nat.reduceLT, Nat.reduceLeDiff, bne_self_eq_false, bne_iff_ne, beq_self_eq_true, List.replicate, List.flatten_cons, List.flatten_nil, dite_true, dite_false])
    | (with_reducible refine VC.regD ?_; simp only [runDraw, staticB, S0.ltB, cond_or, cond_and, implies_true, imp_self, decide_eq_true_eq, decide_eq_false_iff_not, runOps, runP, actOf, argE, argsE, bound, getE, putD, putE, putR, pruneE, owe, ret1, fit, quot, remd, binR, unR, beqR, beq_self_eq_true, pickB, fillL, setL, SV.cells, vals, subList, cellsLoad, rowLoad, loadR, storeR, faddrR, iaddrR, subR, srcL, apart0, appendR, rowLen, etOf, decs, fieldR, loOf, dstOk, allOne, S0.one, Value.oneCell', ET.enc, ET.sz, ET.dec, ET.dft, word_app, wordT_app, wordS_app, tbl_nil, tbl_cons, Int.toNat_natCast, Int.toNat_zero, Nat.reduceBEq, Nat.reduceBNe, Nat.blt, Nat.ble, cond_true, cond_false, true_and, and_true, forall_const, true_implies, decide_true, decide_false, Bool.and_true, Bool.and_false, Bool.true_and, Bool.false_and, Bool.or_false, Bool.or_true, Bool.true_or, Bool.false_or, reduceCtorEq, List.length_cons, List.length_nil, List.append_nil, List.nil_append, List.cons_append, List.getElem?_cons_zero, List.getElem?_cons_succ, List.getElem?_nil, tupSV, List.map_cons, List.map_nil, List.filterMap_cons, List.filterMap_nil, List.set_cons_zero, List.set_cons_succ, List.drop_zero, List.drop_succ_cons, List.take_succ_cons, List.take_zero, List.take_nil, List.drop_nil, Nat.reduceAdd, Nat.zero_add, Nat.add_zero, Nat.reduceMul, Nat.reduceLT, Nat.reduceLeDiff, bne_self_eq_false, bne_iff_ne, beq_self_eq_true, List.replicate, List.flatten_cons, List.flatten_nil, dite_true, dite_false])
    | (with_reducible refine VC.ret ?_; simp only [FinOK, resE, rvE, mkRes, cond_or, cond_and, implies_true, imp_self, decide_eq_true_eq, decide_eq_false_iff_not, runOps, runP, actOf, argE, argsE, bound, getE, putD, putE, putR, pruneE, owe, ret1, fit, quot, remd, binR, unR, beqR, beq_self_eq_true, pickB, fillL, setL, SV.cells, vals, subList, cellsLoad, rowLoad, loadR, storeR, faddrR, iaddrR, subR, srcL, apart0, appendR, rowLen, etOf, decs, fieldR, loOf, dstOk, allOne, S0.one, Value.oneCell', ET.enc, ET.sz, ET.dec, ET.dft, word_app, wordT_app, wordS_app, tbl_nil, tbl_cons, Int.toNat_natCast, Int.toNat_zero, Nat.reduceBEq, Nat.reduceBNe, Nat.blt, Nat.ble, cond_true, cond_false, true_and, and_true, forall_const, true_implies, decide_true, decide_false, Bool.and_true, Bool.and_false, Bool.true_and, Bool.false_and, Bool.or_false, Bool.or_true, Bool.true_or, Bool.false_or, reduceCtorEq, List.length_cons, List.length_nil, List.append_nil, List.nil_append, List.cons_append, List.getElem?_cons_zero, List.getElem?_cons_succ, List.getElem?_nil, tupSV, List.map_cons, List.map_nil, List.filterMap_cons, List.filterMap_nil, List.set_cons_zero, List.set_cons_succ, List.drop_zero, List.drop_succ_cons, List.take_succ_cons, List.take_zero, List.take_nil, List.drop_nil, Nat.reduceAdd, Nat.zero_add, Nat.add_zero, Nat.reduceMul, Nat.reduceLT, Nat.reduceLeDiff, bne_self_eq_false, bne_iff_ne, beq_self_eq_true, List.replicate, List.flatten_cons, List.flatten_nil, dite_true, dite_false])
    | with_reducible refine VC.mid ?_
    | (refine And.intro (by first | omega | (unfold InI64; omega) | (intros; simp_all; done) | (intros; simp_all [InI64, InI32]; omega)) ?_))
    have hq : (decide ((c.size : Int) = 1) && decide (bAt c 0 < 128)) = true := by simp [hc1, hc2]
    rw [hq]
    refine VC.condT (by rfl) (fun _ => ?_) (fun h => by cases h)
    repeat' (first
    | with_reducible refine VC.seq ?_
    | with_reducible refine VC.skip ?_
    | with_reducible refine VC.block ?_
    | with_reducible refine VC.blk ?_
    | (refine VC.exit (by rfl) ?_)
    | (with_reducible refine VC.reg ?_; simp only [cond_or, cond_and, implies_true, imp_self, decide_eq_true_eq, decide_eq_false_iff_not, runOps, runP, actOf, argE, argsE, bound, getE, putD, putE, putR, pruneE, owe, ret1, fit, quot, remd, binR, unR, beqR, beq_self_eq_true, pickB, fillL, setL, SV.cells, vals, subList, cellsLoad, rowLoad, loadR, storeR, faddrR, iaddrR, subR, srcL, apart0, appendR, rowLen, etOf, decs, fieldR, loOf, dstOk, allOne, S0.one, Value.oneCell', ET.enc, ET.sz, ET.dec, ET.dft, word_app, wordT_app, wordS_app, tbl_nil, tbl_cons, Int.toNat_natCast, Int.toNat_zero, Nat.reduceBEq, Nat.reduceBNe, Nat.blt, Nat.ble, cond_true, cond_false, true_and, and_true, forall_const, true_implies, decide_true, decide_false, Bool.and_true, Bool.and_false, Bool.true_and, Bool.false_and, Bool.or_false, Bool.or_true, Bool.true_or, Bool.false_or, reduceCtorEq, List.length_cons, List.length_nil, List.append_nil, List.nil_append, List.cons_append, List.getElem?_cons_zero, List.getElem?_cons_succ, List.getElem?_nil, tupSV, List.map_cons, List.map_nil, List.filterMap_cons, List.filterMap_nil, List.set_cons_zero, List.set_cons_succ, List.drop_zero, List.drop_succ_cons, List.take_succ_cons, List.take_zero, List.take_nil, List.drop_nil, Nat.reduceAdd, Nat.zero_add, Nat.add_zero, Nat.reduceMul, Nat.reduceLT, Nat.reduceLeDiff, bne_self_eq_false, bne_iff_ne, beq_self_eq_true, List.replicate, List.flatten_cons, List.flatten_nil, dite_true, dite_false])
    | (with_reducible refine VC.regD ?_; simp only [runDraw, staticB, S0.ltB, cond_or, cond_and, implies_true, imp_self, decide_eq_true_eq, decide_eq_false_iff_not, runOps, runP, actOf, argE, argsE, bound, getE, putD, putE, putR, pruneE, owe, ret1, fit, quot, remd, binR, unR, beqR, beq_self_eq_true, pickB, fillL, setL, SV.cells, vals, subList, cellsLoad, rowLoad, loadR, storeR, faddrR, iaddrR, subR, srcL, apart0, appendR, rowLen, etOf, decs, fieldR, loOf, dstOk, allOne, S0.one, Value.oneCell', ET.enc, ET.sz, ET.dec, ET.dft, word_app, wordT_app, wordS_app, tbl_nil, tbl_cons, Int.toNat_natCast, Int.toNat_zero, Nat.reduceBEq, Nat.reduceBNe, Nat.blt, Nat.ble, cond_true, cond_false, true_and, and_true, forall_const, true_implies, decide_true, decide_false, Bool.and_true, Bool.and_false, Bool.true_and, Bool.false_and, Bool.or_false, Bool.or_true, Bool.true_or, Bool.false_or, reduceCtorEq, List.length_cons, List.length_nil, List.append_nil, List.nil_append, List.cons_append, List.getElem?_cons_zero, List.getElem?_cons_succ, List.getElem?_nil, tupSV, List.map_cons, List.map_nil, List.filterMap_cons, List.filterMap_nil, List.set_cons_zero, List.set_cons_succ, List.drop_zero, List.drop_succ_cons, List.take_succ_cons, List.take_zero, List.take_nil, List.drop_nil, Nat.reduceAdd, Nat.zero_add, Nat.add_zero, Nat.reduceMul, Nat.reduceLT, Nat.reduceLeDiff, bne_self_eq_false, bne_iff_ne, beq_self_eq_true, List.replicate, List.flatten_cons, List.flatten_nil, dite_true, dite_false])
    | (with_reducible refine VC.ret ?_; simp only [FinOK, resE, rvE, mkRes, cond_or, cond_and, implies_true, imp_self, decide_eq_true_eq, decide_eq_false_iff_not, runOps, runP, actOf, argE, argsE, bound, getE, putD, putE, putR, pruneE, owe, ret1, fit, quot, remd, binR, unR, beqR, beq_self_eq_true, pickB, fillL, setL, SV.cells, vals, subList, cellsLoad, rowLoad, loadR, storeR, faddrR, iaddrR, subR, srcL, apart0, appendR, rowLen, etOf, decs, fieldR, loOf, dstOk, allOne, S0.one, Value.oneCell', ET.enc, ET.sz, ET.dec, ET.dft, word_app, wordT_app, wordS_app, tbl_nil, tbl_cons, Int.toNat_natCast, Int.toNat_zero, Nat.reduceBEq, Nat.reduceBNe, Nat.blt, Nat.ble, cond_true, cond_false, true_and, and_true, forall_const, true_implies, decide_true, decide_false, Bool.and_true, Bool.and_false, Bool.true_and, Bool.false_and, Bool.or_false, Bool.or_true, Bool.true_or, Bool.false_or, reduceCtorEq, List.length_cons, List.length_nil, List.append_nil, List.nil_append, List.cons_append, List.getElem?_cons_zero, List.getElem?_cons_succ, List.getElem?_nil, tupSV, List.map_cons, List.map_nil, List.filterMap_cons, List.filterMap_nil, List.set_cons_zero, List.set_cons_succ, List.drop_zero, List.drop_succ_cons, List.take_succ_cons, List.take_zero, List.take_nil, List.drop_nil, Nat.reduceAdd, Nat.zero_add, Nat.add_zero, Nat.reduceMul, Nat.reduceLT, Nat.reduceLeDiff, bne_self_eq_false, bne_iff_ne, beq_self_eq_true, List.replicate, List.flatten_cons, List.flatten_nil, dite_true, dite_false])
    | with_reducible refine VC.mid ?_
    | (refine And.intro (by first | omega | (unfold InI64; omega) | (intros; simp_all; done) | (intros; simp_all [InI64, InI32]; omega)) ?_)
    | (refine VC.condT (by rfl) (fun h => ?_) (fun h => ?_) <;> (try (cases h; done)) <;> (try simp only [decide_eq_true_eq, decide_eq_false_iff_not, Bool.and_eq_true, Bool.or_eq_true, Bool.and_eq_false_iff, Bool.or_eq_false_iff, Bool.not_eq_true', Bool.not_eq_false', not_true_eq_false, not_false_eq_true, or_false, or_true, false_or, true_or, and_true, true_and, and_false, false_and] at h) <;> (try (simp only [*, reduceCtorEq] at h; done)) <;> (try (exfalso; omega; done))))
end Go.Proofs.YtdibapfehdhfjaaDoor
