/-
 StatusPlaces: whatever the claims: true. No program.
-/
import Derived.Test.YtekkjbomadoplaaDoorPBeyond
import Derived.Test.YtekkjbomadoplaaDoorPShape
import Derived.Test.YtekkjbomadoplaaDoorSP
namespace Go.Proofs.YtekkjbomadoplaaDoor
open Go.Eng
set_option linter.unusedVariables false
set_option linter.unusedSimpArgs false

theorem mem_both {v : List Eng.Node} (hl : v.length ≤ 2000000) (ht : Tree v 0 v.length) (h0 : 0 < v.length) (a : Int) (key : ByteArray) : ∃ r, zah_s v a key = some r ∧ zay_s v a key = some r ∧ -1 ≤ r ∧ r < v.length := by
 by_cases ha : a < 0 ∨ (v.length : Int) ≤ a
 ·obtain ⟨h1, h2⟩ := member_out ha key
  exact ⟨-1, h1, h2, by omega, by omega⟩
 ·obtain ⟨b, rfl⟩ := Int.eq_ofNat_of_zero_le (show 0 ≤ a by omega)
  obtain ⟨e', he, _⟩ := Trees.sub ht (p := b) (by omega) (by omega)
  exact member_tree hl he key
theorem object_both {v : List Eng.Node} (hl : v.length ≤ 2000000) (ht : Tree v 0 v.length) (h0 : 0 < v.length) (a : Int) (key : ByteArray) : ∃ r, zbj_s v a key = some r ∧ zat_s v a key = some r ∧ -1 ≤ r ∧ r < v.length := by
 obtain ⟨r, h1, h2, h3, h4⟩ := mem_both hl ht h0 a key
 unfold zbj_s zat_s
 rw [h1, h2, obS, obS]
 by_cases hr : 0 ≤ r
 ·rw [gd_pos (fun _ => by omega), gd_pos (fun _ => by omega), gd_pos (fun _ => by omega), gd_pos (fun _ => by omega), gd_pos (fun _ => by omega), gd_pos (fun _ => by omega)]
  rw [decide_eq_true hr, decide_eq_false (show ¬ r < 0 by omega), Bool.true_and, Bool.false_or]
  cases (!decide ((v.getD r.toNat (ET.dft .node)).kind = 7)) with
  | true => exact ⟨-1, rfl, rfl, by omega, by omega⟩
  | false => exact ⟨r, rfl, rfl, h3, h4⟩
 ·rw [decide_eq_false hr, decide_eq_true (show r < 0 by omega)]
  rw [gd_pos (fun h => by cases h), gd_pos (fun h => by cases h), gd_pos (fun h => by cases h), gd_pos (fun h => by cases h), gd_pos (fun h => by cases h), gd_pos (fun h => by cases h)]
  rw [Bool.false_and, Bool.true_or, cond_false, cond_true]
  exact ⟨r, rfl, by rw [show r = -1 by omega], h3, h4⟩
theorem end_both {v : List Eng.Node} (hl : v.length ≤ 2000000) (ht : Tree v 0 v.length) (h0 : 0 < v.length) (s : Int) (hs : -1 ≤ s ∧ s < v.length) : ∃ r, zbi_p0 s v = some r ∧ zas_p0 s v = some r := by
 obtain ⟨r5, a1, a2, a3, a4⟩ := mem_both hl ht h0 s (⟨#[105, 100, 120]⟩ : ByteArray)
 obtain ⟨r6, b1, b2, b3, b4⟩ := mem_both hl ht h0 s (⟨#[117, 114, 105]⟩ : ByteArray)
 unfold zbi_p0 zas_p0
 rw [a1, a2, b1, b2]
 simp only [obS]
 by_cases hsn : s < 0
 ·have hr5 : r5 = -1 := by
   have := (member_out (v := v) (a := s) (.inl hsn) (⟨#[105, 100, 120]⟩ : ByteArray)).1
   rw [a1] at this
   exact Option.some.inj this
  subst hr5
  rw [decide_eq_true hsn, decide_eq_true (show (-1 : Int) < 0 by omega)]
  have gt : ∀ {R : Type} (p : Prop) (k : Option R), gd (true = false → p) k = k := fun p k => gd_pos (fun h => by cases h) k
  simp only [Bool.true_or, gt, cond_true]
  exact ⟨_, rfl, rfl⟩
 ·rw [decide_eq_false hsn, Bool.false_or]
  by_cases h56 : r5 < 0 ∨ r6 < 0
  ·have : ((decide (r5 < (0 : Int))) || (decide (r6 < (0 : Int)))) = true := by simpa using h56
   rw [this]
   have gt : ∀ {R : Type} (p : Prop) (k : Option R), gd (true = false → p) k = k := fun p k => gd_pos (fun h => by cases h) k
   simp only [Bool.true_or, gt, cond_true]
   exact ⟨_, rfl, rfl⟩
  ·have g : ∀ {R : Type} (c : Bool) (x : Int) (k : Option R), (0 ≤ x ∧ x < v.length) → gd (c = false → 0 ≤ x ∧ x < v.length) k = k := fun c x k h => gd_pos (fun _ => h) k
   have g' : ∀ {R : Type} (c : Bool) (x : Int) (k : Option R), (0 ≤ x ∧ x < v.length) → gd (c = false → (Int.toNat x) < v.length) k = k := fun c x k h => gd_pos (fun _ => by omega) k
   have e5 : 0 ≤ r5 ∧ r5 < v.length := by omega
   have e6 : 0 ≤ r6 ∧ r6 < v.length := by omega
   simp only [g _ r5 _ e5, g' _ r5 _ e5, g _ r6 _ e6, g' _ r6 _ e6]
   generalize (((((decide (r5 < (0 : Int))) || (decide (r6 < (0 : Int)))) || (!((v.getD (Int.toNat r5) (ET.dft .node)).whole))) || (decide (((v.getD (Int.toNat r5) (ET.dft .node)).int) < (0 : Int)))) || (!decide (((v.getD (Int.toNat r6) (ET.dft .node)).kind) = (5 : Int)))) = c
   cases c with
   | true => exact ⟨_, rfl, rfl⟩
   | false =>
    have k1 : ∀ {R : Type} (k : Option R), gd (0 ≤ r5 ∧ r5 < v.length) k = k := fun k => gd_pos e5 k
    have k2 : ∀ {R : Type} (k : Option R), gd (0 ≤ r6 ∧ r6 < v.length) k = k := fun k => gd_pos e6 k
    have k3 : ∀ {R : Type} (k : Option R), gd (Int.toNat r5 < v.length) k = k := fun k => gd_pos (by omega) k
    have k4 : ∀ {R : Type} (k : Option R), gd (Int.toNat r6 < v.length) k = k := fun k => gd_pos (by omega) k
    simp only [cond_false, k1, k2, k3, k4]
    exact ⟨_, rfl, rfl⟩
theorem place_both (c c' : api_Claims) (h : c.value = c'.value) (hv : OkL c.value) : ∃ r, zbi_s c = some r ∧ zas_s c' = some r := by
 have hl := hv.1
 obtain ⟨b, s1, s2⟩ := shaped_both hv
 obtain ⟨b', s3, s4⟩ := shaped_some hv
 have hbb : b' = b := by rw [s2] at s3; exact (Option.some.inj s3).symm
 subst hbb
 unfold zbi_s zas_s zbk_s zau_s
 rw [← h, s1, s2]
 simp only [obS]
 cases b' with
 | false =>
  rw [gd_pos (fun h => by cases h), gd_pos (fun h => by cases h), gd_pos (fun h => by cases h)]
  exact ⟨_, rfl, rfl⟩
 | true =>
  have ht := s4 rfl
  have h0 : 0 < c.value.length := by have := ht.le; omega
  rw [gd_pos (fun _ => by omega), gd_pos (fun _ => by exact h0), gd_pos (fun _ => by exact h0)]
  simp only [obS, Bool.true_and]
  cases decide ((c.value.getD (Int.toNat 0) (ET.dft .node)).kind = 7) with
  | false => exact ⟨_, rfl, rfl⟩
  | true =>
   simp only [Bool.not_true, cond_false]
   obtain ⟨r2, a1, a2, a3, a4⟩ := mem_both hl ht h0 0 (⟨#[115, 116, 97, 116, 117, 115]⟩ : ByteArray)
   obtain ⟨r3, b1, b2, b3, b4⟩ := object_both hl ht h0 0 (⟨#[115, 116, 97, 116, 117, 115]⟩ : ByteArray)
   rw [a1, a2, obS, obS]
   cases decide (r2 < 0) with
   | true => exact ⟨_, rfl, rfl⟩
   | false =>
    simp only [cond_false]
    rw [b1, b2, obS, obS]
    by_cases hr3 : 0 ≤ r3
    ·rw [decide_eq_true hr3, cond_true, cond_true]
     obtain ⟨r4, c1, c2, c3, c4⟩ := object_both hl ht h0 r3 (⟨#[115, 116, 97, 116, 117, 115, 95, 108, 105, 115, 116]⟩ : ByteArray)
     obtain ⟨q, d1, d2⟩ := end_both hl ht h0 r4 ⟨c3, c4⟩
     rw [c1, c2, obS, obS, d1, d2]
     exact ⟨_, rfl, rfl⟩
    ·rw [decide_eq_false hr3, cond_false, cond_false, show r3 = -1 by omega]
     obtain ⟨q, d1, d2⟩ := end_both hl ht h0 (-1) (by omega)
     rw [d1, d2]
     exact ⟨_, rfl, rfl⟩

/-! ### the list written over -/
def marks : List Eng.Node := [(⟨91, ⟨#[]⟩, ⟨#[]⟩, false, 0, 0⟩ : Eng.Node), (⟨92, ⟨#[]⟩, ⟨#[]⟩, false, 0, 0⟩ : Eng.Node)]
theorem p_lent (v : List Eng.Node) (hv : v.length ≤ 2000000) : zal_s v = some (v ++ marks, v.length) := by
 unfold zal_s
 rw [gd_pos (by omega)]
 show gd (v.length + marks.length ≤ _ ∧ (v.length + marks.length) * 64 ≤ _) (gd ((0 : Int) ≤ 0 ∧ (0 : Int) ≤ v.length ∧ (v.length : Int) ≤ (v ++ marks).length) (some (v ++ marks, Int.toNat (v.length : Int)))) = _
 have hm : marks.length = 2 := rfl
 rw [gd_pos (by rw [hm]; omega), gd_pos (by rw [List.length_append, hm]; omega), Int.toNat_natCast]
theorem still_loop (w : List Eng.Node) (hw : w.length ≤ 2000000) : ∀ (j i : Nat), i + j = w.length → zam_p0 (i : Int) 0 w.length w (w ++ marks) = some (.inr ())
 | 0, i, h => by
  unfold zam_p0
  refine whileO_inr ?_
  unfold zam_p0_step
  rw [decide_eq_false (by omega), cond_false]
 | j + 1, i, h => by
  have ih := still_loop w hw j (i + 1) (by omega)
  have hl : (w ++ marks).length = w.length + 2 := by rw [List.length_append]; rfl
  have hg : (w ++ marks).getD (0 + Int.toNat (i : Int)) (ET.dft .node) = w.getD (Int.toNat (i : Int)) (ET.dft .node) := by
   rw [Int.toNat_natCast, Nat.zero_add, List.getD_eq_getElem?_getD, List.getD_eq_getElem?_getD, List.getElem?_append_left (by omega)]
  unfold zam_p0 at ih ⊢
  rw [whileO_inl (y := ((i + 1 : Nat) : Int)) ?_, ih]
  unfold zam_p0_step
  rw [decide_eq_true (by omega), cond_true, gd_pos (by omega), gd_pos (by omega), gd_pos (by omega), gd_pos (by omega), hg]
  simp only [decide_true, beq_self_eq_true, Bool.and_self, Bool.not_true, cond_false]
  exact gd_pos (by unfold InI64; omega) _
theorem p_still (w : List Eng.Node) (hw : w.length ≤ 2000000) : zam_s (w ++ marks) w 0 w.length = some true := by
 have hm : marks.length = 2 := rfl
 have hl : (w ++ marks).length = w.length + 2 := by rw [List.length_append, hm]
 have h0 := still_loop w hw w.length 0 (by omega)
 rw [show ((0 : Nat) : Int) = 0 from rfl] at h0
 have g1 : (w ++ marks).getD (0 + Int.toNat (w.length : Int)) (ET.dft .node) = ⟨91, ⟨#[]⟩, ⟨#[]⟩, false, 0, 0⟩ := by
  rw [Int.toNat_natCast, Nat.zero_add]
  exact nd_get (by rw [List.getElem?_append_right (Nat.le_refl _), Nat.sub_self]; rfl)
 have g2 : (w ++ marks).getD (0 + Int.toNat ((w.length : Int) + 1)) (ET.dft .node) = ⟨92, ⟨#[]⟩, ⟨#[]⟩, false, 0, 0⟩ := by
  rw [show 0 + Int.toNat ((w.length : Int) + 1) = w.length + 1 by omega]
  exact nd_get (by rw [List.getElem?_append_right (by omega), show w.length + 1 - w.length = 1 by omega]; rfl)
 unfold zam_s
 rw [decide_eq_true rfl, Bool.not_true, cond_false, h0, obS]
 simp only [Sum.elim_inr]
 rw [g1, g2, hl]
 rw [gd_pos (by unfold InI64; omega), gd_pos (by omega), gd_pos (by omega), gd_pos (by omega), gd_pos (by omega), gd_pos (fun _ => by unfold InI64; omega), gd_pos (fun _ => by omega), gd_pos (fun _ => by omega), gd_pos (fun _ => by omega)]
 rfl
def keyF (n : Eng.Node) : Eng.Node := if n.key = (⟨#[120]⟩ : ByteArray) then ⟨n.kind, (⟨#[105, 100, 120]⟩ : ByteArray), n.text, n.whole, n.int, n.kids⟩ else n
def textF (n : Eng.Node) : Eng.Node := if n.kind = 5 then ⟨n.kind, n.key, n.text ++ (⟨#[113]⟩ : ByteArray), n.whole, n.int, n.kids⟩ else n
theorem mid_get (A B : List Eng.Node) (x : Eng.Node) : (A ++ x :: B).getD A.length (ET.dft .node) = x := nd_get (by simp)
theorem mid_set (A B : List Eng.Node) (x y : Eng.Node) : (A ++ x :: B).set A.length y = A ++ y :: B := by simp
theorem over_one (N : Nat) (hN : N ≤ 2000000) (A B : List Eng.Node) (x : Eng.Node) (hA : A.length < N) : zak_p1 (A.length : Int) N (A ++ x :: B) = some (A ++ keyF x :: B) := by
 have hl : (A ++ x :: B).length = A.length + (B.length + 1) := by simp
 unfold zak_p1 keyF
 simp only [Int.toNat_natCast, Nat.zero_add, mid_get, mid_set]
 rw [gd_pos (by omega), gd_pos (by omega), gd_pos (by omega)]
 by_cases h : x.key = (⟨#[120]⟩ : ByteArray)
 ·rw [decide_eq_true h, cond_true, if_pos h, gd_pos (by omega), gd_pos (by omega), gd_pos (by omega)]
 ·rw [decide_eq_false h, cond_false, if_neg h]
theorem over_step (N : Nat) (hN : N ≤ 2000000) (A B : List Eng.Node) (x : Eng.Node) (hA : A.length < N) (hx : x.text.size ≤ 2000000) :
  zak_p0_step (A.length : Int) N (A ++ x :: B) = some (.inl (((A.length + 1 : Nat) : Int), A ++ keyF (textF x) :: B)) := by
 have hl : (A ++ x :: B).length = A.length + (B.length + 1) := by simp
 have z1 : (⟨#[113]⟩ : ByteArray).size = 1 := rfl
 unfold zak_p0_step textF
 rw [decide_eq_true (by omega), cond_true]
 simp only [Int.toNat_natCast, Nat.zero_add, mid_get, mid_set]
 rw [gd_pos (by omega), gd_pos (by omega), gd_pos (by omega)]
 by_cases h5 : x.kind = 5
 ·rw [decide_eq_true h5, cond_true, if_pos h5, gd_pos (by omega), gd_pos (by omega), gd_pos (by omega), gd_pos (by omega), gd_pos (by omega), gd_pos (by omega), gd_pos (by omega), over_one N hN A B _ hA, obS]
  exact gd_pos (by unfold InI64; omega) _
 ·rw [decide_eq_false h5, cond_false, if_neg h5, over_one N hN A B _ hA, obS]
  exact gd_pos (by unfold InI64; omega) _
theorem over_loop (N : Nat) (hN : N ≤ 2000000) : ∀ (r pre : List Eng.Node), pre.length + r.length = N → (∀ x ∈ r, x.text.size ≤ 2000000) →
  zak_p0 (pre.length : Int) N (pre.map (fun x => keyF (textF x)) ++ (r ++ marks)) = some ((pre ++ r).map (fun x => keyF (textF x)) ++ marks)
 | [], pre, h, hr => by
  rw [List.append_nil, List.nil_append]
  unfold zak_p0
  refine whileO_inr ?_
  unfold zak_p0_step
  simp only [List.length_nil, Nat.add_zero] at h
  dsimp only
  rw [decide_eq_false (by omega), cond_false]
 | x :: r, pre, h, hr => by
  have hA : (pre.map (fun x => keyF (textF x))).length = pre.length := by simp
  have hst := over_step N hN (pre.map (fun x => keyF (textF x))) (r ++ marks) x (by rw [hA]; simp only [List.length_cons] at h; omega) (hr x (by simp))
  rw [hA] at hst
  have ih := over_loop N hN r (pre ++ [x]) (by simp only [List.length_append, List.length_cons, List.length_nil] at h ⊢; omega) (fun y hy => hr y (by simp [hy]))
  rw [show pre ++ x :: r = (pre ++ [x]) ++ r by simp, ← ih]
  rw [show ((pre ++ [x]).length : Int) = ((pre.length + 1 : Nat) : Int) by simp, show (pre ++ [x]).map (fun x => keyF (textF x)) ++ (r ++ marks) = pre.map (fun x => keyF (textF x)) ++ keyF (textF x) :: (r ++ marks) by simp]
  unfold zak_p0
  exact whileO_inl hst
theorem overF_ok {n : Eng.Node} (h1 : n.key.size ≤ 1048576) (h2 : n.text.size ≤ 1048576) (h3 : InI64 n.kids) : OkN (keyF (textF n)) := by
 have ht : OkN (textF n) := by
  unfold textF
  split
  ·refine ⟨by show n.key.size ≤ _; omega, ?_, h3⟩
   show (n.text ++ (⟨#[113]⟩ : ByteArray)).size ≤ _
   rw [ByteArray.size_append]
   have : (⟨#[113]⟩ : ByteArray).size = 1 := rfl
   omega
  ·exact ⟨by omega, by omega, h3⟩
 unfold keyF
 split
 ·exact ⟨by show (3 : Nat) ≤ _; omega, ht.text, ht.kids⟩
 ·exact ht
/-- The law. -/
theorem statusPlaces_plain (c : api_Claims) (hl : c.value.length ≤ 1048576) (hv : ∀ n ∈ c.value, n.key.size ≤ 1048576 ∧ n.text.size ≤ 1048576 ∧ InI64 n.kids) : zak_s c = some true := by
 obtain ⟨v, hcv⟩ : ∃ v, v = c.value := ⟨_, rfl⟩
 rw [← hcv] at hl hv
 have ok : OkL v := ⟨by omega, fun n hn => by obtain ⟨h1, h2, h3⟩ := hv n hn; exact ⟨by omega, by omega, h3⟩⟩
 have hvl : v.length ≤ 2000000 := by omega
 have ln : ∀ w : List Eng.Node, (w ++ marks).length = w.length + 2 := fun w => by rw [List.length_append]; rfl
 have tk : ∀ w : List Eng.Node, ((w ++ marks).drop 0).take w.length = w := fun w => by simp
 obtain ⟨bd, hbd⟩ := beyond_total ok
 unfold zak_s
 rw [← hcv, hbd, obS]
 cases bd with
 | true => rfl
 | false =>
  obtain ⟨w, hw⟩ : ∃ w, w = v.map (fun x => keyF (textF x)) := ⟨_, rfl⟩
  have hwl : w.length = v.length := by rw [hw]; simp
  have okw : OkL w := ⟨by omega, fun n hn => by
   rw [hw, List.mem_map] at hn
   obtain ⟨m, hm, rfl⟩ := hn
   obtain ⟨h1, h2, h3⟩ := hv m hm
   exact overF_ok h1 h2 h3⟩
  have hlo : zak_p0 (0 : Int) v.length (v ++ marks) = some (w ++ marks) := by
   have := over_loop v.length hvl v [] (by simp) (fun x hx => by have := (hv x hx).2.1; omega)
   rw [hw]
   simpa using this
  have st2 : zam_s (w ++ marks) w 0 v.length = some true := by rw [← hwl]; exact p_still w (by omega)
  have tkw : ((w ++ marks).drop 0).take v.length = w := by rw [← hwl]; exact tk w
  rw [cond_false, p_lent v hvl, obS]
  dsimp only
  rw [gd_pos (by rw [ln]; omega), tk v]
  obtain ⟨r1, p1, p2⟩ := place_both ⟨v, c.iss, c.hasIss, c.sub, c.hasSub, c.aud, c.hasAud, c.jti, c.hasJti, c.exp_, c.nbf, c.iat⟩ c hcv ok
  rw [p1, obS, p2, obS, p_still v hvl, obS]
  simp only [decide_true, Bool.not_true, Bool.or_self, cond_false]
  rw [hlo, obS, gd_pos (by rw [ln]; omega), tkw, gd_pos (by omega), gd_pos (by rw [ln]; omega)]
  obtain ⟨r2, p3, p4⟩ := place_both ⟨w, c.iss, c.hasIss, c.sub, c.hasSub, c.aud, c.hasAud, c.jti, c.hasJti, c.exp_, c.nbf, c.iat⟩ ⟨w, (⟨#[]⟩ : ByteArray), false, (⟨#[]⟩ : ByteArray), false, [], false, (⟨#[]⟩ : ByteArray), false, (⟨false, (0 : Int)⟩ : api_Time), (⟨false, (0 : Int)⟩ : api_Time), (⟨false, (0 : Int)⟩ : api_Time)⟩ rfl okw
  rw [p3, obS, p4, obS]
  simp only [decide_true, Bool.and_self, cond_true]
  rw [st2]
  rfl
end Go.Proofs.YtekkjbomadoplaaDoor
