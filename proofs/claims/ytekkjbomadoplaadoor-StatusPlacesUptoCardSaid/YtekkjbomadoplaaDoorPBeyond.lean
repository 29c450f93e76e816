/-
 What json.Kids, Behind, Member and signetref3.Beyond do of any list. No program.
-/
import Derived.Test.YtekkjbomadoplaaDoorPFind
namespace Go.Proofs.YtekkjbomadoplaaDoor
open Go.Eng
set_option linter.unusedVariables false
set_option linter.unusedSimpArgs false

/-! ### the calls end, whatever the list -/
/-- Of a tree, at whatever place: both tell the same. -/
theorem agree {v : List Eng.Node} (hv : v.length ≤ 2000000) (ht : Tree v 0 v.length) (a : Int) :
  (∀ key, ∃ r, zah_s v a key = some r ∧ zay_s v a key = some r) ∧ (∃ r, zag_s v a = some r ∧ zav_s v a = some r) ∧ (∃ r, json_Kids_s v a = some r ∧ zax_s v a = some r ∧ r.length ≤ 4000000) := by
 by_cases ha : a < 0 ∨ (v.length : Int) ≤ a
 ·exact ⟨fun key => ⟨-1, member_out ha key⟩, ⟨-1, p_jBehind_out v ha, rBehind_out v ha⟩, ⟨[], j_kids_out v ha, r_kids_out v ha, by simp⟩⟩
 ·obtain ⟨b, rfl⟩ := Int.eq_ofNat_of_zero_le (show 0 ≤ a by omega)
  obtain ⟨e, he, _⟩ := Trees.sub ht (p := b) (by omega) (by omega)
  refine ⟨fun key => ?_, ⟨(e : Int), jBehind_tree hv he, rBehind_tree hv he⟩, ?_⟩
  ·obtain ⟨r, r1, r2, _⟩ := member_tree hv he key
   exact ⟨r, r1, r2⟩
  ·obtain ⟨nd, h1, h2, h3⟩ := he.node
   obtain ⟨l, hl⟩ := h3.places
   have l3 := h3.le
   exact ⟨upN l, j_kids hv h1 h2 h3 hl, r_kids hv h1 h2 h3 hl, by rw [upN_len, hl.len]; omega⟩

/-! ### Beyond -/
theorem by_trim : ∀ (m : Nat) (o : List Int), o.length = m → m ≤ 100000 → ∃ k, k ≤ m ∧ zaw_p1 o = some (o.take k) ∧ (0 < k → 0 < o.getD (k - 1) (ET.dft .i64))
 | 0, o, h, hm => by
  refine ⟨0, by omega, ?_, fun h => by omega⟩
  have : o = [] := List.eq_nil_of_length_eq_zero h
  subst this
  unfold zaw_p1
  refine whileO_inr ?_
  unfold zaw_p1_step
  rw [gd_pos (fun h => by simp at h), gd_pos (fun h => by simp at h), gd_pos (fun h => by simp at h)]
  rfl
 | m + 1, o, h, hm => by
  have hlen : Int.toNat ((o.length : Int) - 1) = m := by omega
  by_cases hc : o.getD m (ET.dft .i64) ≤ 0
  ·obtain ⟨k, k1, k2, k3⟩ := by_trim m (o.take m) (by rw [List.length_take]; omega) (by omega)
   refine ⟨k, by omega, ?_, fun hk => ?_⟩
   ·unfold zaw_p1 at k2 ⊢
    rw [whileO_inl (y := o.take m) ?_, k2, List.take_take, Nat.min_eq_left k1]
    unfold zaw_p1_step
    rw [gd_pos (fun _ => by unfold InI64; omega), gd_pos (fun _ => by omega), gd_pos (fun _ => by omega), hlen, decide_eq_true (show (0 : Int) < o.length by omega), decide_eq_true hc, Bool.and_self, cond_true, gd_pos (by unfold InI64; omega), gd_pos (by omega)]
   ·have := k3 hk
    rw [List.getD_eq_getElem?_getD, List.getElem?_take_of_lt (by omega)] at this
    rw [List.getD_eq_getElem?_getD]
    exact this
  ·refine ⟨m + 1, Nat.le_refl _, ?_, fun _ => by rw [Nat.add_sub_cancel]; omega⟩
   rw [List.take_of_length_le (by omega)]
   unfold zaw_p1
   refine whileO_inr ?_
   unfold zaw_p1_step
   rw [gd_pos (fun _ => by unfold InI64; omega), gd_pos (fun _ => by omega), gd_pos (fun _ => by omega), hlen, decide_eq_false hc, Bool.and_false, cond_false]
theorem getD_mem {o : List Int} {k : Nat} (h : k < o.length) : o.getD k (ET.dft .i64) ∈ o := by
 rw [List.getD_eq_getElem?_getD, List.getElem?_eq_getElem h]
 exact List.getElem_mem h
theorem by_loop {v : List Eng.Node} (hv : OkL v) : ∀ (j i : Nat) (o : List Int), i + j = v.length → o.length ≤ 65536 → (∀ x ∈ o, InI64 x) → ∃ y, zaw_p0 (i : Int) v o = some y
 | 0, i, o, h, ho, hi => by
  refine ⟨.inr (), ?_⟩
  unfold zaw_p0
  refine whileO_inr ?_
  unfold zaw_p0_step
  dsimp only
  rw [decide_eq_false (by omega), cond_false]
 | j + 1, i, o, h, ho, hi => by
  have hlen := hv.1
  obtain ⟨k, k1, k2, k3⟩ := by_trim o.length o rfl (by omega)
  obtain ⟨n, _, hmem, hget⟩ := nd_some (v := v) (a := i) (by omega)
  have hkids := (hv.2 n hmem).kids
  have p2 : ∀ q : List Int, q.length = k → (∀ x ∈ q, InI64 x) → ∃ z, zaw_p2 (i : Int) v q = some z ∧ (z = .inl true ∨ ∃ q', z = .inr q' ∧ q'.length ≤ 65536 ∧ ∀ x ∈ q', InI64 x) := by
   intro q hq hx
   unfold zaw_p2
   rw [gd_pos (by omega), Int.toNat_natCast, gd_pos (by omega), gd_pos (by omega), hget, gd_pos (by simp only [List.length_singleton]; omega)]
   by_cases h6 : (65536 : Int) < (q ++ [n.kids]).length
   ·rw [decide_eq_true h6, cond_true]
    exact ⟨_, rfl, .inl rfl⟩
   ·rw [decide_eq_false h6, cond_false]
    refine ⟨_, rfl, .inr ⟨_, rfl, by omega, fun x hx' => ?_⟩⟩
    rcases List.mem_append.1 hx' with h | h
    ·exact hx x h
    ·rw [List.mem_singleton] at h
     rw [h]; exact hkids
  have hstep : ∃ y, zaw_p0_step (i : Int) v o = some y ∧ ((∃ z, y = .inr z) ∨ ∃ q, y = .inl (((i + 1 : Nat) : Int), q) ∧ q.length ≤ 65536 ∧ ∀ x ∈ q, InI64 x) := by
   unfold zaw_p0_step
   rw [decide_eq_true (by omega), cond_true, k2, obS]
   have hk8 : (o.take k).length = k := by rw [List.length_take]; omega
   have htk : ∀ x ∈ o.take k, InI64 x := fun x hx => hi x (List.mem_of_mem_take hx)
   have fin : ∀ q : List Int, q.length = k → (∀ x ∈ q, InI64 x) → ∃ y, ((zaw_p2 (i : Int) v q).bind fun o9 => (Sum.elim (fun (o9_0 : Bool) => some (.inr (.inl o9_0))) (fun (o9_1 : (List Int)) => gd (InI64 ((i : Int) + 1)) <| some (.inl (((i : Int) + 1), o9_1)))) o9 : Option ((Int × (List Int)) ⊕ (Bool ⊕ Unit))) = some y ∧ ((∃ z, y = .inr z) ∨ ∃ q, y = .inl (((i + 1 : Nat) : Int), q) ∧ q.length ≤ 65536 ∧ ∀ x ∈ q, InI64 x) := by
    intro q hq hx
    obtain ⟨z, z1, z2⟩ := p2 q hq hx
    rw [z1, obS]
    rcases z2 with rfl | ⟨q', rfl, q1, q2⟩
    ·exact ⟨_, rfl, .inl ⟨_, rfl⟩⟩
    ·exact ⟨_, gd_pos (by unfold InI64; omega) _, .inr ⟨q', rfl, q1, q2⟩⟩
   by_cases h0 : 0 < k
   ·rw [hk8, decide_eq_true (by omega), cond_true]
    have hkt : Int.toNat ((k : Int) - 1) = k - 1 := by omega
    have hgd : (o.take k).getD (k - 1) (ET.dft .i64) = o.getD (k - 1) (ET.dft .i64) := by
     rw [List.getD_eq_getElem?_getD, List.getElem?_take_of_lt (by omega), ← List.getD_eq_getElem?_getD]
    have hpos := k3 h0
    have hin := hi _ (getD_mem (o := o) (k := k - 1) (by omega))
    unfold InI64 at hin
    rw [gd_pos (by unfold InI64; omega), gd_pos (by unfold InI64; omega), gd_pos (by omega), hkt, hgd, gd_pos (by omega), gd_pos (by unfold InI64; omega), gd_pos (by omega), gd_pos (by omega)]
    refine fin _ (by rw [List.length_set, hk8]) fun x hx => ?_
    rcases List.mem_or_eq_of_mem_set hx with h | rfl
    ·exact htk x h
    ·unfold InI64; omega
   ·rw [hk8, decide_eq_false (by omega), cond_false]
    exact fin _ hk8 htk
  obtain ⟨y, h1, h2⟩ := hstep
  rcases h2 with ⟨z, rfl⟩ | ⟨q, rfl, q1, q2⟩
  ·refine ⟨z, ?_⟩
   unfold zaw_p0
   exact whileO_inr h1
  ·obtain ⟨y, hy⟩ := by_loop hv j (i + 1) q (by omega) q1 q2
   refine ⟨y, ?_⟩
   unfold zaw_p0 at hy ⊢
   rw [whileO_inl h1]
   exact hy
theorem beyond_total {v : List Eng.Node} (hv : OkL v) : ∃ b, zaw_s v = some b := by
 obtain ⟨y, hy⟩ := by_loop hv v.length 0 [] (by omega) (by simp) (fun x hx => by cases hx)
 unfold zaw_s
 rw [show ((0 : Nat) : Int) = 0 from rfl] at hy
 rw [hy, obS]
 cases y <;> exact ⟨_, rfl⟩
end Go.Proofs.YtekkjbomadoplaaDoor
