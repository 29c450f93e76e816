/-
  JsonFinds, its law. No program.
-/
import Derived.Test.YtdcoiccdbgcpaaaDoorPFinds
namespace Go.Proofs.YtdcoiccdbgcpaaaDoor
open Go.Eng
set_option linter.unusedVariables false
set_option linter.unusedSimpArgs false

theorem itoaB_size (n : Int) (h : InI64 n) : (itoaB n).size ≤ 21 := by
  have := Lib.itoa_length_le n h.1 h.2
  show (Lib.itoa n).toArray.size ≤ 21
  rw [List.size_toArray]
  exact this
theorem set_get {v : List Eng.Node} {i : Nat} (h : i < v.length) (x : Eng.Node) : (v.set i x).getD i (ET.dft .node) = x := by
  rw [List.getD_eq_getElem?_getD, List.getElem?_set_self h]; rfl
theorem set_get_ne {v : List Eng.Node} {i p : Nat} (h : p ≠ i) (x : Eng.Node) : (v.set i x).getD p (ET.dft .node) = v.getD p (ET.dft .node) := by
  rw [List.getD_eq_getElem?_getD, List.getElem?_set_ne (Ne.symm h), ← List.getD_eq_getElem?_getD]
theorem all_of_get {v : List Eng.Node} {P : Eng.Node → Prop} (h : ∀ p, p < v.length → P (v.getD p (ET.dft .node))) : ∀ n ∈ v, P n := fun n hn => by
  obtain ⟨p, hp, rfl⟩ := List.getElem_of_mem hn
  have := h p hp
  rwa [nd_get (List.getElem?_eq_getElem hp)] at this
theorem get_of_all {v : List Eng.Node} {P : Eng.Node → Prop} (h : ∀ n ∈ v, P n) {p : Nat} (hp : p < v.length) : P (v.getD p (ET.dft .node)) := by
  rw [nd_get (List.getElem?_eq_getElem hp)]
  exact h _ (List.getElem_mem hp)
/-! ### flat -/
theorem flat_loop (key : ByteArray) (hk : key.size ≤ 2000000) : ∀ (j i : Nat) (k : List Eng.Node), i + j = k.length → k.length ≤ 2000000 → (∀ p, p < i → OkN (k.getD p (ET.dft .node))) →
    ∃ r, signetlaw3_flat_p0 key (i : Int) k = some r ∧ r.length = k.length ∧ ∀ p, p < r.length → OkN (r.getD p (ET.dft .node))
  | 0, i, k, h, hl, hp => by
    refine ⟨k, ?_, rfl, fun p h1 => hp p (by omega)⟩
    unfold signetlaw3_flat_p0
    refine whileO_inr ?_
    unfold signetlaw3_flat_p0_step
    dsimp only
    rw [decide_eq_false (by omega), cond_false]
  | j + 1, i, k, h, hl, hp => by
    have e113 : (⟨#[113]⟩ : ByteArray).size = 1 := rfl
    have hii : InI64 (i : Int) := by unfold InI64; omega
    have hz := itoaB_size i hii
    obtain ⟨x, hx⟩ : ∃ x : Eng.Node, x = ⟨1, (key ++ (⟨#[113]⟩ : ByteArray)) ++ itoaB i, ⟨#[]⟩, false, 0, 0⟩ := ⟨_, rfl⟩
    have hxk : OkN x := by
      rw [hx]
      refine ⟨?_, Nat.zero_le _, by unfold InI64; dsimp only; omega⟩
      show ((key ++ (⟨#[113]⟩ : ByteArray)) ++ itoaB i).size ≤ _
      rw [ByteArray.size_append, ByteArray.size_append, e113]
      omega
    obtain ⟨r, r1, r2, r3⟩ := flat_loop key hk j (i + 1) (k.set i x) (by rw [List.length_set]; omega) (by rw [List.length_set]; exact hl) (fun p h1 => by
      by_cases hpi : p = i
      · rw [hpi, set_get (by omega)]; exact hxk
      · rw [set_get_ne hpi]; exact hp p (by omega))
    refine ⟨r, ?_, by rw [r2, List.length_set], r3⟩
    unfold signetlaw3_flat_p0 at r1 ⊢
    rw [whileO_inl (y := (((i + 1 : Nat) : Int), k.set i x)) ?_]
    · exact r1
    · unfold signetlaw3_flat_p0_step strconv_Itoa_s
      dsimp only
      rw [decide_eq_true (by omega), cond_true, gd_pos (by rw [e113]; omega), gd_pos hii, Option.bind_some, gd_pos (by rw [ByteArray.size_append, e113]; omega), gd_pos (by omega), gd_pos (by omega), gd_pos (by unfold InI64; omega), Int.toNat_natCast, ← hx]
      rfl
theorem flat_some {k : List Eng.Node} {key : ByteArray} (h0 : 0 < k.length) (hl : k.length ≤ 2000000) (hk : key.size ≤ 2000000) : ∃ r, signetlaw3_flat_s k key = some r ∧ r.length = k.length ∧ OkL r := by
  obtain ⟨o, o1, o2, o3⟩ := flat_loop key hk k.length 0 k (by omega) hl (fun p h => by omega)
  rw [show ((0 : Nat) : Int) = 0 from rfl] at o1
  obtain ⟨q, hq⟩ : ∃ q : List Eng.Node, q = o.set 0 ⟨7, ⟨#[]⟩, ⟨#[]⟩, false, 0, (o.length : Int) - 1⟩ := ⟨_, rfl⟩
  have hql : q.length = k.length := by rw [hq, List.length_set, o2]
  have hqo : ∀ p, p < q.length → OkN (q.getD p (ET.dft .node)) := fun p hp => by
    rw [hq]
    by_cases hp0 : p = 0
    · rw [hp0, set_get (by omega)]
      exact ⟨Nat.zero_le _, Nat.zero_le _, by unfold InI64; dsimp only; omega⟩
    · rw [set_get_ne hp0]
      exact o3 p (by omega)
  unfold signetlaw3_flat_s
  rw [o1, Option.bind_some, gd_pos (by unfold InI64; omega), gd_pos (by omega), gd_pos (by show 0 < o.length; omega)]
  rw [show Int.toNat (0 : Int) = 0 from rfl, show Int.toNat (1 : Int) = 1 from rfl, ← hq]
  by_cases h1 : 1 < q.length
  · rw [decide_eq_true (by omega), cond_true, gd_pos (by omega), gd_pos h1, gd_pos h1]
    refine ⟨_, rfl, by rw [List.length_set, hql], by rw [List.length_set]; omega, all_of_get fun p hp => ?_⟩
    rw [List.length_set] at hp
    by_cases hp1 : p = 1
    · rw [hp1, set_get h1]
      have := hqo 1 h1
      exact ⟨by show key.size ≤ _; omega, this.text, this.kids⟩
    · rw [set_get_ne hp1]
      exact hqo p hp
  · rw [decide_eq_false (by omega), cond_false]
    exact ⟨q, rfl, hql, by omega, all_of_get hqo⟩
theorem back_loop : ∀ (j i : Nat) (k was : List Eng.Node), i + j = k.length → was.length = k.length → k.length ≤ 2000000 → (∀ p, p < i → k[p]? = was[p]?) → signetlaw3_flattened_p0 (i : Int) k was = some was
  | 0, i, k, was, h, hw, hl, hp => by
    have : k = was := by
      apply List.ext_getElem?
      intro p
      by_cases hpi : p < i
      · exact hp p hpi
      · rw [List.getElem?_eq_none (by omega), List.getElem?_eq_none (by omega)]
    subst this
    unfold signetlaw3_flattened_p0
    refine whileO_inr ?_
    unfold signetlaw3_flattened_p0_step
    dsimp only
    rw [decide_eq_false (by omega), cond_false]
  | j + 1, i, k, was, h, hw, hl, hp => by
    have hi : i < was.length := by omega
    have ih := back_loop j (i + 1) (k.set i (was.getD i (ET.dft .node))) was (by rw [List.length_set]; omega) (by rw [List.length_set]; exact hw) (by rw [List.length_set]; exact hl) (fun p h1 => by
      by_cases hpi : p = i
      · rw [hpi, List.getElem?_set_self (by omega), nd_get (List.getElem?_eq_getElem hi)]
        exact (List.getElem?_eq_getElem hi).symm
      · rw [List.getElem?_set_ne (Ne.symm hpi)]
        exact hp p (by omega))
    unfold signetlaw3_flattened_p0 at ih ⊢
    rw [whileO_inl (y := (((i + 1 : Nat) : Int), k.set i (was.getD i (ET.dft .node)))) ?_]
    · exact ih
    · unfold signetlaw3_flattened_p0_step
      dsimp only
      rw [decide_eq_true (by omega), cond_true, gd_pos (by omega), gd_pos (by omega), gd_pos (by omega), gd_pos (by omega), Int.toNat_natCast]
      exact (gd_pos (by unfold InI64; omega) _).trans rfl
theorem flattened_some {k : List Eng.Node} (hk : OkL k) (ht : Tree k 0 k.length) (a : Int) {key : ByteArray} (hkey : key.size ≤ 2000000) : ∃ r, signetlaw3_flattened_s k a key = some (r, true) := by
  have hl := hk.1
  have h0 : 0 < k.length := by have := Trees.le ht; omega
  obtain ⟨f, f1, f2, f3⟩ := flat_some h0 hl hkey
  obtain ⟨b, b1, b2⟩ := shaped_some f3
  unfold signetlaw3_flattened_s
  rw [p_twin k hl, Option.bind_some, Option.bind_some, f1, Option.bind_some, b1, Option.bind_some]
  cases b with
  | false => exact ⟨_, rfl⟩
  | true =>
    have ft := b2 rfl
    obtain ⟨am, ⟨ab, ab1, ab2⟩, ⟨ak, ak1, ak2, ak3⟩⟩ := agree hl ht a
    obtain ⟨m, m1, m2⟩ := am key
    obtain ⟨bm, ⟨bb, bb1, bb2⟩, ⟨bk, bk1, bk2, bk3⟩⟩ := agree f3.1 ft a
    obtain ⟨n, n1, n2⟩ := bm key
    have hb := back_loop f.length 0 f k (by omega) f2.symm (by omega) (fun p h => by omega)
    rw [show ((0 : Nat) : Int) = 0 from rfl] at hb
    rw [Bool.not_true, cond_false, m1, Option.bind_some, ab1, Option.bind_some, ak1, Option.bind_some, Option.bind_some, n1, Option.bind_some, bb1, Option.bind_some, bk1, Option.bind_some, bk2, Option.bind_some, n2, Option.bind_some]
    rw [decide_eq_true rfl, Bool.not_true, cond_false, bb2, Option.bind_some, decide_eq_true rfl, Bool.not_true, cond_false, ints_self bk bk3, Option.bind_some, Bool.not_true, cond_false]
    rw [hb, Option.bind_some, m1, Option.bind_some, ab1, Option.bind_some, ak1, Option.bind_some, ak2, Option.bind_some, m2, Option.bind_some, decide_eq_true rfl, cond_true, ab2, Option.bind_some, decide_eq_true rfl, cond_true, ints_self ak ak3]
    exact ⟨_, rfl⟩
/-! ### the list written over -/
theorem over_one {n i : Nat} (hi : i < n) (hn : n ≤ 2000000) (h : List Eng.Node) (hl : h.length = n + 2) : ∃ r, signetlaw3_JsonFinds_p1 (i : Int) n h = some r ∧ r.length = h.length ∧ (∀ p, p ≠ i → r.getD p (ET.dft .node) = h.getD p (ET.dft .node)) ∧
    (r.getD i (ET.dft .node)).key = (h.getD i (ET.dft .node)).key ∧ (r.getD i (ET.dft .node)).text.size ≤ (h.getD i (ET.dft .node)).text.size ∧ (r.getD i (ET.dft .node)).kids = (h.getD i (ET.dft .node)).kids := by
  have hil : i < h.length := by omega
  have sg : ∀ x : Eng.Node, (h.set i x).getD i (ET.dft .node) = x := fun x => set_get hil x
  unfold signetlaw3_JsonFinds_p1
  simp only [Nat.zero_add, Int.toNat_natCast, List.set_set, sg, List.length_set]
  rw [gd_pos (fun _ => by omega), gd_pos (fun _ => by omega), gd_pos (fun _ => by omega)]
  cases (decide ((0 : Int) < (i : Int)) && decide ((h.getD i (ET.dft .node)).kids = 0)) with
  | false => exact ⟨h, rfl, rfl, fun p hp => rfl, rfl, Nat.le_refl _, rfl⟩
  | true =>
    rw [cond_true]
    simp only [gd_pos (show 0 ≤ (i : Int) ∧ (i : Int) < ((n : Nat) : Int) by omega), gd_pos hil]
    exact ⟨_, rfl, by rw [List.length_set], fun p hp => set_get_ne hp _, by rw [sg], by rw [sg]; exact Nat.zero_le _, by rw [sg]⟩
theorem over_loop {n : Nat} (hn : n ≤ 2000000) {h0 : List Eng.Node} (h2 : h0.length = n + 2) (hok : ∀ p, p < n → (h0.getD p (ET.dft .node)).key.size ≤ 2000000 ∧ (h0.getD p (ET.dft .node)).text.size ≤ 2000000 ∧ InI64 (h0.getD p (ET.dft .node)).kids) :
    ∀ (j i : Nat) (h : List Eng.Node), i + j = n → h.length = n + 2 → (∀ p, i ≤ p → h.getD p (ET.dft .node) = h0.getD p (ET.dft .node)) → (∀ p, p < i → OkN (h.getD p (ET.dft .node))) →
      ∃ r, signetlaw3_JsonFinds_p0 (i : Int) n h = some r ∧ r.length = n + 2 ∧ (∀ p, n ≤ p → r.getD p (ET.dft .node) = h0.getD p (ET.dft .node)) ∧ (∀ p, p < n → OkN (r.getD p (ET.dft .node)))
  | 0, i, h, hi, hl, hh, hp => by
    refine ⟨h, ?_, hl, fun p h1 => hh p (by omega), fun p h1 => hp p (by omega)⟩
    unfold signetlaw3_JsonFinds_p0
    refine whileO_inr ?_
    unfold signetlaw3_JsonFinds_p0_step
    dsimp only
    rw [decide_eq_false (by omega), cond_false]
  | j + 1, i, h, hi, hl, hh, hp => by
    have e113 : (⟨#[113]⟩ : ByteArray).size = 1 := rfl
    have hil : i < h.length := by omega
    have hgi := hh i (Nat.le_refl _)
    obtain ⟨k1, k2, k3⟩ := hok i (by omega)
    rw [← hgi] at k1 k2 k3
    have next : ∀ q, signetlaw3_JsonFinds_p0_step (i : Int) n h = some (.inl (((i + 1 : Nat) : Int), q)) → q.length = n + 2 → (∀ p, p ≠ i → q.getD p (ET.dft .node) = h.getD p (ET.dft .node)) → OkN (q.getD i (ET.dft .node)) →
        ∃ r, signetlaw3_JsonFinds_p0 (i : Int) n h = some r ∧ r.length = n + 2 ∧ (∀ p, n ≤ p → r.getD p (ET.dft .node) = h0.getD p (ET.dft .node)) ∧ (∀ p, p < n → OkN (r.getD p (ET.dft .node))) := by
      intro q hst ql qn qi
      obtain ⟨r, r1, r2, r3, r4⟩ := over_loop hn h2 hok j (i + 1) q (by omega) ql (fun p h1 => by rw [qn p (by omega)]; exact hh p (by omega)) (fun p h1 => by
        by_cases hpi : p = i
        · rw [hpi]; exact qi
        · rw [qn p hpi]; exact hp p (by omega))
      refine ⟨r, ?_, r2, r3, r4⟩
      unfold signetlaw3_JsonFinds_p0 at r1 ⊢
      rw [whileO_inl hst]
      exact r1
    by_cases hk : (h.getD i (ET.dft .node)).key = ⟨#[]⟩
    · obtain ⟨q, q1, q2, q3, q4, q5, q6⟩ := over_one (i := i) (by omega) hn h hl
      refine next q ?_ (by omega) q3 ⟨by rw [q4]; omega, by omega, by rw [q6]; exact k3⟩
      unfold signetlaw3_JsonFinds_p0_step
      rw [decide_eq_true (by omega), cond_true, gd_pos (by omega)]
      simp only [Nat.zero_add, Int.toNat_natCast]
      rw [gd_pos hil, gd_pos hil, decide_eq_true hk, Bool.not_true, cond_false, q1, Option.bind_some]
      exact (gd_pos (by unfold InI64; omega) _).trans rfl
    · obtain ⟨x, hx⟩ : ∃ x : Eng.Node, x = ⟨(h.getD i (ET.dft .node)).kind, ((h.getD i (ET.dft .node)).key ++ (⟨#[113]⟩ : ByteArray)), (h.getD i (ET.dft .node)).text, (h.getD i (ET.dft .node)).whole, (h.getD i (ET.dft .node)).int, (h.getD i (ET.dft .node)).kids⟩ := ⟨_, rfl⟩
      obtain ⟨q, q1, q2, q3, q4, q5, q6⟩ := over_one (i := i) (by omega) hn (h.set i x) (by rw [List.length_set]; exact hl)
      rw [List.length_set] at q2
      rw [set_get hil] at q4 q5 q6
      have hxk : x.key.size = (h.getD i (ET.dft .node)).key.size + 1 := by rw [hx]; show (_ ++ _ : ByteArray).size = _; rw [ByteArray.size_append, e113]
      have hxt : x.text = (h.getD i (ET.dft .node)).text := by rw [hx]
      have hxs : x.kids = (h.getD i (ET.dft .node)).kids := by rw [hx]
      refine next q ?_ (by omega) (fun p hp => by rw [q3 p hp, set_get_ne hp]) ⟨by rw [q4]; omega, by rw [hxt] at q5; omega, by rw [q6, hxs]; exact k3⟩
      unfold signetlaw3_JsonFinds_p0_step
      rw [decide_eq_true (by omega), cond_true, gd_pos (by omega)]
      simp only [Nat.zero_add, Int.toNat_natCast]
      rw [gd_pos hil, gd_pos hil, decide_eq_false hk, Bool.not_false, cond_true, gd_pos (by omega), gd_pos hil, gd_pos hil, gd_pos (by rw [e113]; omega), gd_pos (by omega), gd_pos hil, gd_pos hil, ← hx, q1, Option.bind_some]
      exact (gd_pos (by unfold InI64; omega) _).trans rfl
/-- The law. -/
theorem jsonFinds_plain (v : List Eng.Node) (a : Int) (key : ByteArray) (hl : v.length ≤ 1048576) (hv : ∀ n ∈ v, n.key.size ≤ 1048576 ∧ n.text.size ≤ 1048576 ∧ InI64 n.kids) (hk : key.size ≤ 1048576) : signetlaw3_JsonFinds_s v a key = some true := by
  have ok : OkL v := ⟨by omega, fun n hn => by obtain ⟨h1, h2, h3⟩ := hv n hn; exact ⟨by omega, by omega, h3⟩⟩
  have hm : marks.length = 2 := rfl
  have hvl : v.length ≤ 2000000 := by omega
  have tk : ((v ++ marks).drop 0).take v.length = v := by simp
  have ln : (v ++ marks).length = v.length + 2 := by rw [List.length_append, hm]
  obtain ⟨bd, hbd⟩ := beyond_total ok
  unfold signetlaw3_JsonFinds_s
  rw [hbd, Option.bind_some]
  cases bd with
  | true => rfl
  | false =>
    rw [cond_false, p_lent v hvl, Option.bind_some]
    obtain ⟨r1, h1⟩ := j_member_total v hvl a key
    obtain ⟨r2, h2⟩ := j_kids_total v hvl a
    obtain ⟨r3, h3⟩ := j_behind_total v hvl a
    obtain ⟨b, b1, b2⟩ := shaped_some ok
    dsimp only
    rw [tk, gd_pos (by rw [ln]; omega), h1, Option.bind_some, gd_pos (by rw [ln]; omega), h2, Option.bind_some, gd_pos (by rw [ln]; omega), h3, Option.bind_some, p_still v hvl, Option.bind_some, b1, Option.bind_some]
    cases b with
    | false => rfl
    | true =>
      have ht := b2 rfl
      obtain ⟨am, ⟨ab, ab1, ab2⟩, ⟨ak, ak1, ak2, ak3⟩⟩ := agree hvl ht a
      obtain ⟨m, m1, m2⟩ := am key
      rw [h1] at m1
      rw [h2] at ak1
      rw [h3] at ab1
      cases m1
      cases ak1
      cases ab1
      rw [show ((!true) || (!true)) = false from rfl, cond_false, ak2, Option.bind_some, m2, Option.bind_some, decide_eq_true rfl, Bool.not_true, cond_false, ints_self _ ak3, Option.bind_some, Bool.not_true, cond_false, ab2, Option.bind_some, decide_eq_true rfl, Bool.not_true, cond_false]
      -- written over
      obtain ⟨o, o1, o2, o3, o4⟩ := over_loop hvl (h0 := v ++ marks) ln (fun p hp => by
        have e : (v ++ marks).getD p (ET.dft .node) = v.getD p (ET.dft .node) := by
          rw [List.getD_eq_getElem?_getD, List.getElem?_append_left hp, ← List.getD_eq_getElem?_getD]
        rw [e]
        obtain ⟨g1, g2, g3⟩ := get_of_all hv hp
        exact ⟨by omega, by omega, g3⟩) v.length 0 (v ++ marks) (by omega) ln (fun p _ => rfl) (fun p hp => by omega)
      rw [show ((0 : Nat) : Int) = 0 from rfl] at o1
      rw [o1, Option.bind_some]
      obtain ⟨w, hw⟩ : ∃ w, w = o.take v.length := ⟨_, rfl⟩
      have wl : w.length = v.length := by rw [hw, List.length_take]; omega
      have ow : o = w ++ marks := by
        apply List.ext_getElem?
        intro p
        by_cases hp : p < v.length
        · rw [List.getElem?_append_left (by omega), hw, List.getElem?_take_of_lt hp]
        · rw [List.getElem?_append_right (by omega), wl]
          by_cases hp2 : p < v.length + 2
          · have h4 := o3 p (by omega)
            have h5 : o[p]? = some (o.getD p (ET.dft .node)) := by
              rw [List.getElem?_eq_getElem (by omega), nd_get (List.getElem?_eq_getElem (by omega))]
            have h6 : marks[p - v.length]? = some ((v ++ marks).getD p (ET.dft .node)) := by
              have h7 : (v ++ marks)[p]? = marks[p - v.length]? := List.getElem?_append_right (by omega)
              rw [← h7, List.getElem?_eq_getElem (by omega), nd_get (List.getElem?_eq_getElem (by omega))]
            rw [h5, h4, h6]
          · rw [List.getElem?_eq_none (by omega), List.getElem?_eq_none (by omega)]
      have okw : OkL w := ⟨by omega, all_of_get fun p hp => by
        have := o4 p (by omega)
        have e : w.getD p (ET.dft .node) = o.getD p (ET.dft .node) := by
          rw [hw, List.getD_eq_getElem?_getD, List.getElem?_take_of_lt (by omega), ← List.getD_eq_getElem?_getD]
        rw [e]; exact this⟩
      have tkw : (o.drop 0).take v.length = w := by rw [List.drop_zero, hw]
      have tkw2 : o.take v.length = w := hw.symm
      rw [gd_pos (by omega), tkw, p_twin w (by omega), Option.bind_some]
      obtain ⟨c, c1, c2⟩ := shaped_some okw
      rw [c1, Option.bind_some]
      cases c with
      | false => rfl
      | true =>
        have htw := c2 rfl
        have e113 : (⟨#[113]⟩ : ByteArray).size = 1 := rfl
        obtain ⟨bm, ⟨bb, bb1, bb2⟩, ⟨bk, bk1, bk2, bk3⟩⟩ := agree (v := w) (by omega) htw a
        obtain ⟨n, n1, n2⟩ := bm (key ++ (⟨#[113]⟩ : ByteArray))
        have hst := p_still w (by omega)
        rw [← ow, wl] at hst
        rw [Bool.not_true, cond_false, gd_pos (by rw [e113]; omega), gd_pos (by omega), n1, Option.bind_some, gd_pos (by omega), bk1, Option.bind_some, gd_pos (by omega), bb1, Option.bind_some, hst, Option.bind_some, bk2, Option.bind_some, gd_pos (by rw [e113]; omega), n2, Option.bind_some]
        rw [decide_eq_true rfl, Bool.not_true, cond_false, ints_self bk bk3, Option.bind_some, Bool.not_true, cond_false, bb2, Option.bind_some, decide_eq_true rfl, show ((!true) || false) = false from rfl, cond_false, Option.bind_some, Bool.not_true, cond_false, tkw2]
        cases (decide (a < 0) || decide (((v.length : Nat) : Int) ≤ a)) with
        | true =>
          obtain ⟨r, hr⟩ := flattened_some okw htw 0 (key := key) (by omega)
          rw [cond_true, gd_pos (by omega), hr]
          rfl
        | false =>
          obtain ⟨r, hr⟩ := flattened_some okw htw a (key := key) (by omega)
          rw [cond_false, gd_pos (by omega), hr]
          rfl
end Go.Proofs.YtdcoiccdbgcpaaaDoor
