/-
 The document's shape of a list of nodes: it is always told, and where it is good the list is a tree. No program.
-/
import Derived.Test.YtekkjbomadoplaaDoorPTree
import Derived.Test.YtekkjbomadoplaaDoorPDecRef
import Derived.Test.YtekkjbomadoplaaDoorJR
namespace Go.Proofs.YtekkjbomadoplaaDoor
open Go.Eng
set_option linter.unusedVariables false
set_option linter.unusedSimpArgs false

theorem nd_get {v : List Eng.Node} {a : Nat} {n : Eng.Node} (h : v[a]? = some n) : v.getD a (ET.dft .node) = n := by
 rw [List.getD_eq_getElem?_getD, h]; rfl
theorem nd_some {v : List Eng.Node} {a : Nat} (h : a < v.length) : ∃ n, v[a]? = some n ∧ n ∈ v ∧ v.getD a (ET.dft .node) = n :=
 ⟨v[a], List.getElem?_eq_getElem h, List.getElem_mem h, nd_get (List.getElem?_eq_getElem h)⟩
/-- Nodes whose texts are short. -/
structure OkN (n : Eng.Node) : Prop where
 key : n.key.size ≤ 3000000
 text : n.text.size ≤ 3000000
 kids : InI64 n.kids
def OkL (v : List Eng.Node) : Prop := v.length ≤ 2000000 ∧ ∀ n ∈ v, OkN n

/-! ### numbers -/
theorem read_text (s : ByteArray) : (readAll s).text.size ≤ s.size := by
 unfold readAll readS
 split
 ·exact Nat.zero_le _
 ·split
  ·simp only [ByteArray.size_extract]; omega
  ·split
   ·simp only [ByteArray.size_extract]; omega
   ·split
    ·simp only [ByteArray.size_extract]; omega
    ·simp only [ByteArray.size_extract]; omega
theorem tdiv_low (x : Int) (h1 : -9223372036854775808 ≤ x) (h2 : x ≤ 0) : x ≤ 10 * Int.tdiv x 10 ∧ Int.tdiv x 10 ≤ 0 := by
 have h3 : Int.tdiv x 10 = -((-x) / 10) := by
  conv => lhs; rw [show x = -(-x) by omega, Int.neg_tdiv]
  rw [Int.tdiv_eq_ediv_of_nonneg (by omega)]
 rw [h3]
 omega
theorem whole_loop (t : ByteArray) (hs : t.size ≤ 3000000) : ∀ (j i : Nat) (v : Int), i + j = t.size → -9223372036854775808 ≤ v ∧ v ≤ 0 → ∃ y, zau_p0 v (i : Int) t = some y ∧ ∀ u, y = .inr u → -9223372036854775808 ≤ u ∧ u ≤ 0
 | 0, i, v, h, hv => by
  refine ⟨.inr v, ?_, fun u hu => by cases hu; exact hv⟩
  unfold zau_p0
  refine whileO_inr ?_
  unfold zau_p0_step
  dsimp only
  rw [decide_eq_false (by omega), cond_false]
 | j + 1, i, v, h, hv => by
  obtain ⟨d, hd⟩ : ∃ d, d = (bAt t i - 48) % 256 := ⟨_, rfl⟩
  have hd2 : 0 ≤ d ∧ d < 256 := by omega
  obtain ⟨l1, l2⟩ := tdiv_low (-9223372036854775808 + d) (by omega) (by omega)
  have l3 : -9223372036854775808 ≤ Int.tdiv (-9223372036854775808 + d) 10 := by omega
  have step : zau_p0_step v (i : Int) t = if v < Int.tdiv (-9223372036854775808 + d) 10 then some (.inr (.inl (0, false))) else some (.inl (10 * v - d, ((i + 1 : Nat) : Int))) := by
   unfold zau_p0_step
   rw [← hd, decide_eq_true (by omega), cond_true]
   refine (gd_pos (by omega) _).trans ?_
   refine (gd_pos (by unfold InI64; omega) _).trans ?_
   refine (gd_pos (by unfold InI64; omega) _).trans ?_
   refine (gd_pos ⟨by decide, by unfold InI64; omega⟩ _).trans ?_
   by_cases hl : v < Int.tdiv (-9223372036854775808 + d) 10
   ·rw [decide_eq_true hl, cond_true, if_pos hl]
   ·rw [decide_eq_false hl, cond_false, if_neg hl]
    refine (gd_pos (by unfold InI64; omega) _).trans ?_
    refine (gd_pos (by unfold InI64; omega) _).trans ?_
    exact gd_pos (by unfold InI64; omega) _
  by_cases hl : v < Int.tdiv (-9223372036854775808 + d) 10
  ·rw [if_pos hl] at step
   refine ⟨.inl (0, false), ?_, fun u hu => by cases hu⟩
   unfold zau_p0
   exact whileO_inr step
  ·rw [if_neg hl] at step
   obtain ⟨y, h1, h2⟩ := whole_loop t hs j (i + 1) (10 * v - d) (by omega) (by omega)
   refine ⟨y, ?_, h2⟩
   unfold zau_p0 at h1 ⊢
   rw [whileO_inl step]
   exact h1
theorem whole_total (s : ByteArray) (hs : s.size ≤ 3000000) : ∃ r, zau_s s = some r := by
 have hx := p_Read s (by omega)
 have hz := read_text s
 obtain ⟨y, hy, hy2⟩ := whole_loop (readAll s).text (by omega) (readAll s).text.size 0 0 (by omega) (by omega)
 unfold zau_s
 rw [hx, obS]
 cases hc : ((!readOk s) || (!(rnum (readAll s)).plain)) with
 | true => exact ⟨_, by rw [cond_true]⟩
 | false =>
  rw [cond_false]
  have hy' : zau_p0 0 0 (rnum (readAll s)).text = some y := hy
  dsimp only
  rw [hy', obS]
  cases y with
  | inl z => exact ⟨_, rfl⟩
  | inr u =>
   have := hy2 u rfl
   dsimp only [Sum.elim_inr]
   cases (rnum (readAll s)).minus with
   | true => exact ⟨_, rfl⟩
   | false =>
    rw [cond_false]
    by_cases h0 : u = -9223372036854775808
    ·rw [decide_eq_true h0, cond_true]; exact ⟨_, rfl⟩
    ·rw [decide_eq_false h0, cond_false]
     exact ⟨_, gd_pos (by unfold InI64; omega) _⟩
theorem valid_total (s : ByteArray) (hs : s.size ≤ 3000000) : ∃ r, zat_s s = some r := by
 unfold zat_s
 rw [p_Read s (by omega)]
 exact ⟨_, rfl⟩

/-! ### texts -/
theorem cond_ex {α : Type} {c : Bool} {a b : Option α} {P : α → Prop} (h1 : ∃ x, a = some x ∧ P x) (h2 : ∃ x, b = some x ∧ P x) : ∃ x, (bif c then a else b) = some x ∧ P x := by
 cases c
 ·exact h2
 ·exact h1
theorem bounds_some (c : Int) : ∃ x, zbd_s c = some x ∧ x.1 ≤ 3 := by
 have k : ∀ a b d : Int, a ≤ 3 → ∃ x, (some (a, b, d) : Option (Int × Int × Int)) = some x ∧ x.1 ≤ 3 := fun a b d h => ⟨_, rfl, h⟩
 unfold zbd_s
 exact cond_ex (k _ _ _ (by decide)) (cond_ex (k _ _ _ (by decide)) (cond_ex (k _ _ _ (by decide)) (cond_ex (k _ _ _ (by decide)) (cond_ex (k _ _ _ (by decide)) (cond_ex (k _ _ _ (by decide)) (cond_ex (k _ _ _ (by decide)) (k _ _ _ (by decide))))))))
theorem bAt_byte (t : ByteArray) (i : Int) : -1 ≤ bAt t i ∧ bAt t i ≤ 255 := by
 unfold bAt
 split
 ·split
  ·rename_i b _
   have := b.toNat_lt
   omega
  ·omega
 ·omega
theorem byteAt_some (t : ByteArray) (at_ : Int) (h0 : 0 ≤ at_) : zbe_s t at_ = some (if (t.size : Int) ≤ at_ then -1 else bAt t at_) ∧ (0 ≤ (if (t.size : Int) ≤ at_ then -1 else bAt t at_) → at_ < t.size) := by
 have := bAt_byte t at_
 unfold zbe_s
 by_cases h : (t.size : Int) ≤ at_
 ·rw [decide_eq_true h, cond_true, if_pos h]
  exact ⟨rfl, fun h => by omega⟩
 ·rw [decide_eq_false h, cond_false, if_neg h]
  refine ⟨(gd_pos (by omega) _).trans (gd_pos (by unfold InI64; omega) _), fun _ => by omega⟩
theorem seq_loop (t : ByteArray) (a : Nat) (n : Int) (hn : n ≤ 3) (ha : a ≤ t.size) (hs : t.size ≤ 3000000) : ∀ (j : Nat) (i : Int) (lo hi : Int), 1 ≤ i → n + 1 - i ≤ j → a + i ≤ t.size → ∃ y, zbi_p0 t (a : Int) n lo hi i = some y ∧ ((∃ z, y = .inl z ∧ z.2.2.1 ≠ 0) ∨ (y = .inr () ∧ a + n + 1 ≤ max (t.size : Int) (a + i)))
 | 0, i, lo, hi, h1, h2, h3 => by
  refine ⟨.inr (), ?_, .inr ⟨rfl, by omega⟩⟩
  unfold zbi_p0
  refine whileO_inr ?_
  unfold zbi_p0_step
  dsimp only
  rw [decide_eq_false (by omega), cond_false]
 | j + 1, i, lo, hi, h1, h2, h3 => by
  by_cases hin : i ≤ n
  ·obtain ⟨b1, b2⟩ := byteAt_some t (a + i) (by omega)
   generalize hc : (if (t.size : Int) ≤ a + i then (-1 : Int) else bAt t (a + i)) = c at b1 b2
   have step : zbi_p0_step t (a : Int) n lo hi i = if c < 0 then some (.inr (.inl (0, ⟨#[]⟩, 31, (t.size : Int), []))) else bif (decide (c < lo) || decide (hi < c)) then some (.inr (.inl (0, ⟨#[]⟩, 32, (a : Int), []))) else some (.inl (128, 191, i + 1)) := by
    unfold zbi_p0_step
    rw [decide_eq_true hin, cond_true]
    refine (gd_pos (by unfold InI64; omega) _).trans ?_
    rw [b1, obS]
    by_cases h : c < 0
    ·rw [decide_eq_true h, cond_true, if_pos h]; rfl
    ·rw [decide_eq_false h, cond_false, if_neg h]
     cases (decide (c < lo) || decide (hi < c)) with
     | true => rfl
     | false => exact gd_pos (by unfold InI64; omega) _
   by_cases h : c < 0
   ·rw [if_pos h] at step
    refine ⟨.inl (0, ⟨#[]⟩, 31, (t.size : Int), []), ?_, .inl ⟨_, rfl, show (31 : Int) ≠ 0 by decide⟩⟩
    unfold zbi_p0
    exact whileO_inr step
   ·rw [if_neg h] at step
    cases hb : (decide (c < lo) || decide (hi < c)) with
    | true =>
     rw [hb] at step
     refine ⟨.inl (0, ⟨#[]⟩, 32, (a : Int), []), ?_, .inl ⟨_, rfl, show (32 : Int) ≠ 0 by decide⟩⟩
     unfold zbi_p0
     exact whileO_inr step
    | false =>
     rw [hb] at step
     have hlt := b2 (by omega)
     obtain ⟨y, g1, g2⟩ := seq_loop t a n hn ha hs j (i + 1) 128 191 (by omega) (by omega) (by omega)
     refine ⟨y, ?_, ?_⟩
     ·unfold zbi_p0 at g1 ⊢
      rw [whileO_inl step]
      exact g1
     ·rcases g2 with g2 | ⟨g2, g3⟩
      ·exact .inl g2
      ·exact .inr ⟨g2, by omega⟩
  ·refine ⟨.inr (), ?_, .inr ⟨rfl, by omega⟩⟩
   unfold zbi_p0
   refine whileO_inr ?_
   unfold zbi_p0_step
   dsimp only
   rw [decide_eq_false hin, cond_false]
theorem seq_some (t : ByteArray) (a : Nat) (ha : a < t.size) (hs : t.size ≤ 3000000) : ∃ g, zbi_s t (a : Int) = some g ∧ (g.code = 0 → ∃ b : Nat, g.at_ = b ∧ a < b ∧ b ≤ t.size) := by
 obtain ⟨x, h1, h2⟩ := bounds_some (bAt t a)
 have hb := bAt_byte t a
 unfold zbi_s
 rw [gd_pos (by omega), gd_pos (by unfold InI64; omega), h1, obS]
 by_cases hn : x.1 < 0
 ·rw [decide_eq_true hn, cond_true]
  exact ⟨_, rfl, fun h => by cases h⟩
 ·rw [decide_eq_false hn, cond_false]
  obtain ⟨y, g1, g2⟩ := seq_loop t a x.1 h2 (by omega) hs 3 1 x.2.1 x.2.2 (by omega) (by omega) (by omega)
  rw [g1, obS]
  rcases g2 with ⟨z, rfl, hz⟩ | ⟨rfl, hz⟩
  ·exact ⟨_, rfl, fun h => (hz h).elim⟩
  ·have hle : (a : Int) + x.1 + 1 ≤ t.size := by omega
   refine ⟨⟨((a : Int) + x.1 + 1), [], t.extract (Int.toNat (a : Int)) (Int.toNat ((a : Int) + x.1 + 1)), 0, 0⟩, ?_, fun _ => ⟨((a : Int) + x.1 + 1).toNat, ?_, by omega, by omega⟩⟩
   ·exact (gd_pos (by unfold InI64; omega) _).trans ((gd_pos (by unfold InI64; omega) _).trans ((gd_pos (by unfold InI64; omega) _).trans ((gd_pos (by unfold InI64; omega) _).trans (gd_pos (by omega) _))))
   ·show (a : Int) + x.1 + 1 = _
    omega
theorem utf_loop (s : ByteArray) (hs : s.size ≤ 3000000) : ∀ (j a : Nat), s.size - a ≤ j → a ≤ s.size → ∃ y, zbk_p0 s (a : Int) = some y
 | 0, a, h1, h2 => by
  refine ⟨.inr (), ?_⟩
  unfold zbk_p0
  refine whileO_inr ?_
  unfold zbk_p0_step
  rw [decide_eq_false (by omega), cond_false]
 | j + 1, a, h1, h2 => by
  by_cases hlt : a < s.size
  ·have hstep : ∃ y, zbk_p0_step s (a : Int) = some y ∧ ((∃ z, y = .inr z) ∨ ∃ b : Nat, y = .inl (b : Int) ∧ a < b ∧ b ≤ s.size) := by
    unfold zbk_p0_step
    rw [decide_eq_true (by omega), cond_true, gd_pos (by omega)]
    by_cases hc : bAt s a < 128
    ·rw [decide_eq_true hc, cond_true]
     exact ⟨_, gd_pos (by unfold InI64; omega) _, .inr ⟨a + 1, rfl, by omega, by omega⟩⟩
    ·rw [decide_eq_false hc, cond_false]
     obtain ⟨g, g1, g2⟩ := seq_some s a hlt hs
     rw [g1, obS]
     by_cases h0 : g.code = 0
     ·rw [decide_eq_true h0, Bool.not_true, cond_false]
      obtain ⟨b, e1, e2, e3⟩ := g2 h0
      exact ⟨_, rfl, .inr ⟨b, by rw [e1], e2, e3⟩⟩
     ·rw [decide_eq_false h0, Bool.not_false, cond_true]
      exact ⟨_, rfl, .inl ⟨_, rfl⟩⟩
   obtain ⟨y, h3, h4⟩ := hstep
   rcases h4 with ⟨z, rfl⟩ | ⟨b, rfl, h5, h6⟩
   ·refine ⟨z, ?_⟩
    unfold zbk_p0
    exact whileO_inr h3
   ·obtain ⟨y, h7⟩ := utf_loop s hs j b (by omega) h6
    refine ⟨y, ?_⟩
    unfold zbk_p0 at h7 ⊢
    rw [whileO_inl h3]
    exact h7
  ·refine ⟨.inr (), ?_⟩
   unfold zbk_p0
   refine whileO_inr ?_
   unfold zbk_p0_step
   rw [decide_eq_false (by omega), cond_false]
theorem utf_total (s : ByteArray) (hs : s.size ≤ 3000000) : ∃ b, zbk_s s = some b := by
 obtain ⟨y, hy⟩ := utf_loop s hs s.size 0 (by omega) (by omega)
 unfold zbk_s
 rw [show ((0 : Nat) : Int) = 0 from rfl] at hy
 rw [hy, obS]
 cases y <;> exact ⟨_, rfl⟩
theorem plain_total (n : Eng.Node) (hn : OkN n) : ∃ b, zbg_s n = some b ∧ (b = true → 0 ≤ n.kids ∧ (0 < n.kids → 6 ≤ n.kind)) := by
 obtain ⟨w, hw⟩ := whole_total n.text hn.text
 obtain ⟨u, hu⟩ := valid_total n.text hn.text
 obtain ⟨x, hx⟩ := utf_total n.text hn.text
 unfold zbg_s
 cases hc : (((decide (n.kind < 1) || decide (7 < n.kind)) || decide (n.kids < 0)) || (decide (0 < n.kids) && decide (n.kind < 6))) with
 | true => exact ⟨false, by rw [cond_true], fun h => by cases h⟩
 | false =>
  rw [cond_false, hw, obS, hu, obS, hx, obS]
  have hk : 0 ≤ n.kids ∧ (0 < n.kids → 6 ≤ n.kind) := by
   simp only [Bool.or_eq_false_iff, Bool.and_eq_false_iff, decide_eq_false_iff_not] at hc
   omega
  have go : ∀ o : Option Bool, (∃ b, o = some b) → ∃ b, o = some b ∧ (b = true → 0 ≤ n.kids ∧ (0 < n.kids → 6 ≤ n.kind)) := fun o ⟨b, h⟩ => ⟨b, h, fun _ => hk⟩
  refine go _ ?_
  cases decide (n.kind = 4) with
  | true => exact ⟨_, rfl⟩
  | false =>
   rw [cond_false]
   cases (n.whole || !decide (n.int = 0)) with
   | true => exact ⟨_, rfl⟩
   | false =>
    rw [cond_false]
    cases decide (n.kind = 5) <;> exact ⟨_, rfl⟩
theorem among_loop (s : ByteArray) (l : List ByteArray) (hl : l.length ≤ 2000000) : ∀ (j i : Nat), i + j = l.length → ∃ y, zbc_p0 s (i : Int) l = some y
 | 0, i, h => by
  refine ⟨.inr (), ?_⟩
  unfold zbc_p0
  refine whileO_inr ?_
  unfold zbc_p0_step
  rw [decide_eq_false (by omega), cond_false]
 | j + 1, i, h => by
  cases hd : decide (l.getD i (ET.dft .str) = s) with
  | true =>
   refine ⟨.inl true, ?_⟩
   unfold zbc_p0
   refine whileO_inr ?_
   unfold zbc_p0_step
   rw [decide_eq_true (by omega), cond_true, gd_pos (by omega), gd_pos (by omega), Int.toNat_natCast, hd, cond_true]
  | false =>
   obtain ⟨y, hy⟩ := among_loop s l hl j (i + 1) (by omega)
   refine ⟨y, ?_⟩
   unfold zbc_p0 at hy ⊢
   rw [whileO_inl (y := ((i + 1 : Nat) : Int)) ?_]
   ·exact hy
   ·unfold zbc_p0_step
    rw [decide_eq_true (by omega), cond_true, gd_pos (by omega), gd_pos (by omega), Int.toNat_natCast, hd, cond_false]
    exact gd_pos (by unfold InI64; omega) _
theorem among_total (l : List ByteArray) (hl : l.length ≤ 2000000) (s : ByteArray) : ∃ b, zbc_s l s = some b := by
 obtain ⟨y, hy⟩ := among_loop s l hl l.length 0 (by omega)
 unfold zbc_s
 rw [show ((0 : Nat) : Int) = 0 from rfl] at hy
 rw [hy, obS]
 cases y <;> exact ⟨_, rfl⟩

/-! ### the shape -/
/-- What is told of the value at a place: there is none, or it ends there. -/
def Told (v : List Eng.Node) (a : Nat) (r : Int) : Prop := r = -1 ∨ ∃ e : Nat, r = e ∧ Tree v a e
theorem Told.lt {v : List Eng.Node} {a : Nat} {r : Int} (h : Told v a r) (h0 : ¬ r < 0) : ∃ e : Nat, r = e ∧ Tree v a e ∧ a < e ∧ e ≤ v.length ∧ a < v.length := by
 rcases h with h | ⟨e, h1, h2⟩
 ·omega
 ·have := Trees.le h2
  exact ⟨e, h1, h2, by omega, this.2, by omega⟩
theorem take_loop {v : List Eng.Node} (hv : OkL v) {a : Nat} {open_ : Int} (ho : 0 ≤ open_ ∧ open_ ≤ 32) (kd : Int) {kids : Nat} (hk : (kids : Int) ≤ 9223372036854775807)
  (ans : Nat → Bool → Int) (hans : ∀ (b : Nat) (obj : Bool), a < b → 0 < kids → Told v b (ans b obj)) :
  ∀ (m next i : Nat) (names : List ByteArray), v.length - next ≤ m → a < next → next ≤ v.length → names.length = i → i ≤ kids → Trees v i (a + 1) next →
   ∃ y, (∀ self : List Eng.Node → Int → Bool → Int → Option Int, (∀ (b : Nat) (obj : Bool), a < b → 0 < kids → self v (b : Int) obj (open_ + 1) = some (ans b obj)) → zbj_p0 self open_ (next : Int) (i : Int) v kd (kids : Int) names = some y) ∧ ((y = .inl (-1)) ∨ ∃ e : Nat, y = .inr (e : Int) ∧ Trees v kids (a + 1) e) := by
 intro m
 induction m with
 | zero =>
  intro next i names h1 h2 h3 h4 h5 h6
  have hlen := hv.1
  by_cases hik : i < kids
  ·have r2 := hans next (decide (kd = 7)) h2 (by omega)
   generalize hrr : ans next (decide (kd = 7)) = r at r2
   have hr : r < 0 := by
    by_cases h0 : r < 0
    ·exact h0
    ·obtain ⟨e, _, _, _, _, h⟩ := r2.lt h0
     omega
   refine ⟨.inl (-1), fun self hself => ?_, .inl rfl⟩
   have r1 := hself next (decide (kd = 7)) h2 (by omega)
   rw [hrr] at r1
   unfold zbj_p0
   refine whileO_inr ?_
   unfold zbj_p0_step
   dsimp only
   rw [decide_eq_true (by omega), cond_true, gd_pos (by unfold InI64; omega), r1, obS, decide_eq_true hr]
   rw [gd_pos (fun _ h => by cases h), gd_pos (fun _ h => by cases h), gd_pos (fun _ h => by cases h), cond_true]
  ·have : i = kids := by omega
   subst this
   refine ⟨.inr (next : Int), fun self hself => ?_, .inr ⟨next, rfl, h6⟩⟩
   unfold zbj_p0
   refine whileO_inr ?_
   unfold zbj_p0_step
   dsimp only
   rw [decide_eq_false (by omega), cond_false]
 | succ m ih =>
  intro next i names h1 h2 h3 h4 h5 h6
  have hlen := hv.1
  by_cases hik : i < kids
  ·have r2 := hans next (decide (kd = 7)) h2 (by omega)
   generalize hrr : ans next (decide (kd = 7)) = r at r2
   by_cases hr : r < 0
   ·refine ⟨.inl (-1), fun self hself => ?_, .inl rfl⟩
    have r1 := hself next (decide (kd = 7)) h2 (by omega)
    rw [hrr] at r1
    unfold zbj_p0
    refine whileO_inr ?_
    unfold zbj_p0_step
    dsimp only
    rw [decide_eq_true (by omega), cond_true, gd_pos (by unfold InI64; omega), r1, obS, decide_eq_true hr]
    rw [gd_pos (fun _ h => by cases h), gd_pos (fun _ h => by cases h), gd_pos (fun _ h => by cases h), cond_true]
   ·obtain ⟨e, rfl, ht, e1, e2, e3⟩ := r2.lt hr
    have htt : Trees v (i + 1) (a + 1) e := by
     have := h6.app ht
     rwa [Nat.add_comm] at this
    have hil : (i : Int) + 1 + (a + 1) ≤ e := by
     have := htt.le
     omega
    obtain ⟨n, _, hmem, hget⟩ := nd_some e3
    obtain ⟨y, y1, y2⟩ := ih e (i + 1) (names ++ [n.key]) (by omega) (by omega) e2 (by simp [h4]) (by omega) htt
    have hg : ∀ {R : Type} (k : Option R), gd (names.length + ([n.key] : List ByteArray).length ≤ 9223372036854775807 ∧ (names.length + ([n.key] : List ByteArray).length) * 16 ≤ 140737488355328) k = k := fun k => gd_pos (by simp only [List.length_singleton, h4]; omega) k
    -- what a round does, whatever the callee
    have round : ∀ self : List Eng.Node → Int → Bool → Int → Option Int, (∀ (b : Nat) (obj : Bool), a < b → 0 < kids → self v (b : Int) obj (open_ + 1) = some (ans b obj)) →
      zbj_p0_step self open_ (next : Int) (i : Int) v kd (kids : Int) names = bif decide (kd = 7) then (zbc_s names n.key).bind (fun b => bif b then some (.inr (.inl (-1))) else some (.inl ((e : Int), ((i + 1 : Nat) : Int), names ++ [n.key]))) else some (.inl ((e : Int), ((i + 1 : Nat) : Int), names ++ [n.key])) := by
     intro self hself
     have r1 := hself next (decide (kd = 7)) h2 (by omega)
     rw [hrr] at r1
     unfold zbj_p0_step
     rw [decide_eq_true (show (i : Int) < (kids : Int) by omega), cond_true, gd_pos (by unfold InI64; omega), r1, obS, decide_eq_false hr, cond_false]
     rw [gd_pos (fun _ _ => by omega), gd_pos (fun _ _ => by omega), gd_pos (fun _ _ => by omega)]
     simp only [Int.toNat_natCast, hget]
     by_cases h7 : kd = 7
     ·rw [decide_eq_true h7, cond_true, cond_true]
      congr 1
      funext b
      cases b with
      | true => rfl
      | false =>
       rw [cond_false, gd_pos (by omega), gd_pos (by omega), gd_pos (by omega), hg, gd_pos (by unfold InI64; omega)]
       rfl
     ·rw [decide_eq_false h7, cond_false, cond_false, gd_pos (by omega), gd_pos (by omega), gd_pos (by omega), hg, gd_pos (by unfold InI64; omega)]
      rfl
    have more : (∀ self : List Eng.Node → Int → Bool → Int → Option Int, (∀ (b : Nat) (obj : Bool), a < b → 0 < kids → self v (b : Int) obj (open_ + 1) = some (ans b obj)) →
      zbj_p0_step self open_ (next : Int) (i : Int) v kd (kids : Int) names = some (.inl ((e : Int), ((i + 1 : Nat) : Int), names ++ [n.key]))) →
      ∃ y, (∀ self : List Eng.Node → Int → Bool → Int → Option Int, (∀ (b : Nat) (obj : Bool), a < b → 0 < kids → self v (b : Int) obj (open_ + 1) = some (ans b obj)) → zbj_p0 self open_ (next : Int) (i : Int) v kd (kids : Int) names = some y) ∧ ((y = .inl (-1)) ∨ ∃ e : Nat, y = .inr (e : Int) ∧ Trees v kids (a + 1) e) := by
     intro hst
     refine ⟨y, fun self hself => ?_, y2⟩
     have y3 := y1 self hself
     unfold zbj_p0 at y3 ⊢
     rw [whileO_inl (hst self hself)]
     exact y3
    by_cases h7 : kd = 7
    ·obtain ⟨b, hb⟩ := among_total names (by omega) n.key
     cases b with
     | true =>
      refine ⟨.inl (-1), fun self hself => ?_, .inl rfl⟩
      have := round self hself
      rw [decide_eq_true h7, cond_true, hb, obS, cond_true] at this
      unfold zbj_p0
      exact whileO_inr this
     | false =>
      refine more fun self hself => ?_
      have := round self hself
      rwa [decide_eq_true h7, cond_true, hb, obS, cond_false] at this
    ·refine more fun self hself => ?_
     have := round self hself
     rwa [decide_eq_false h7, cond_false] at this
  ·have : i = kids := by omega
   subst this
   refine ⟨.inr (next : Int), fun self hself => ?_, .inr ⟨next, rfl, h6⟩⟩
   unfold zbj_p0
   refine whileO_inr ?_
   unfold zbj_p0_step
   dsimp only
   rw [decide_eq_false (by omega), cond_false]
theorem take_total {v : List Eng.Node} (hv : OkL v) : ∀ (m a : Nat) (obj : Bool) (open_ : Int), v.length - a ≤ m → 0 ≤ open_ ∧ open_ ≤ 32 → ∃ r, (∀ n, m < n → zbj_n n v (a : Int) obj open_ = some r) ∧ Told v a r := by
 intro m
 induction m with
 | zero =>
  intro a obj open_ h1 h2
  refine ⟨-1, fun n hn => ?_, .inl rfl⟩
  cases n with
  | zero => omega
  | succ n =>
   show zbj_t (zbj_n n) v a obj open_ = _
   unfold zbj_t
   rw [decide_eq_true (by omega), cond_true]
 | succ m ih =>
  intro a obj open_ h1 h2
  by_cases ha : a < v.length
  ·obtain ⟨nd, hnd, hmem, hget⟩ := nd_some ha
   obtain ⟨p, hp, hp2⟩ := plain_total nd (hv.2 nd hmem)
   obtain ⟨u, hu⟩ := utf_total nd.key (hv.2 nd hmem).key
   have hlen := hv.1
   have hki := (hv.2 nd hmem).kids
   unfold InI64 at hki
   cases hc : ((((!p) || (!u)) || ((!obj) && (!decide (nd.key = ⟨#[]⟩)))) || (decide (6 ≤ nd.kind) && decide (open_ = 32))) with
   | true =>
    refine ⟨-1, fun n hn => ?_, .inl rfl⟩
    cases n with
    | zero => omega
    | succ n =>
     show zbj_t (zbj_n n) v a obj open_ = _
     unfold zbj_t
     rw [decide_eq_false (by omega), cond_false, gd_pos (by omega), gd_pos (by omega), Int.toNat_natCast, hget, hp, obS, hu, obS, hc, cond_true]
   | false =>
    have hpt : p = true := by
     cases p
     ·simp at hc
     ·rfl
    obtain ⟨k0, k6⟩ := hp2 hpt
    have hop : 0 < nd.kids → open_ < 32 := fun h => by
     have h6 := k6 h
     rw [Bool.or_eq_false_iff] at hc
     have := hc.2
     rw [decide_eq_true h6, Bool.true_and, decide_eq_false_iff_not] at this
     omega
    obtain ⟨kk, hkk⟩ := Int.eq_ofNat_of_zero_le k0
    -- the words of the children, whatever depth is left
    have hch : ∀ (b : Nat) (ob : Bool), a < b → 0 < kk → ∃ r, (∀ n, m < n → zbj_n n v (b : Int) ob (open_ + 1) = some r) ∧ Told v b r := fun b ob hb hk => ih b ob (open_ + 1) (by omega) (by have := hop (by omega); omega)
    obtain ⟨ans, hans⟩ : ∃ ans : Nat → Bool → Int, ∀ (b : Nat) (ob : Bool), a < b → 0 < kk → (∀ n, m < n → zbj_n n v (b : Int) ob (open_ + 1) = some (ans b ob)) ∧ Told v b (ans b ob) :=
     ⟨fun b ob => if h : a < b ∧ 0 < kk then (hch b ob h.1 h.2).choose else 0, fun b ob h1 h2 => by
      simp only [dif_pos (And.intro h1 h2)]
      exact (hch b ob h1 h2).choose_spec⟩
    obtain ⟨y, hy1, hy2⟩ := take_loop hv (a := a) h2 nd.kind (kids := kk) (by omega) ans (fun b ob hb hk => (hans b ob hb hk).2) v.length (a + 1) 0 [] (by omega) (by omega) (by omega) rfl (by omega) (Trees.nil _ (by omega))
    refine ⟨Sum.elim id id y, fun n hn => ?_, ?_⟩
    ·cases n with
     | zero => omega
     | succ n =>
      show zbj_t (zbj_n n) v a obj open_ = _
      unfold zbj_t
      rw [decide_eq_false (by omega), cond_false, gd_pos (by omega), gd_pos (by omega), Int.toNat_natCast, hget, hp, obS, hu, obS, hc, cond_false, gd_pos (by unfold InI64; omega), hkk]
      have := hy1 (zbj_n n) fun b ob hb hk => (hans b ob hb hk).1 n (by omega)
      rw [show ((a + 1 : Nat) : Int) = (a : Int) + 1 by omega, show ((0 : Nat) : Int) = 0 from rfl] at this
      rw [this, obS]
      cases y <;> rfl
    ·rcases hy2 with rfl | ⟨e, rfl, he⟩
     ·exact .inl rfl
     ·refine .inr ⟨e, rfl, Tree.mk hnd k0 ?_⟩
      rw [hkk]
      exact he
  ·refine ⟨-1, fun n hn => ?_, .inl rfl⟩
   cases n with
   | zero => omega
   | succ n =>
    show zbj_t (zbj_n n) v a obj open_ = _
    unfold zbj_t
    rw [decide_eq_true (by omega), cond_true]
theorem take_some {v : List Eng.Node} (hv : OkL v) (a : Nat) (obj : Bool) (open_ : Int) (ho : 0 ≤ open_ ∧ open_ ≤ 32) : ∃ r, zbj_s v (a : Int) obj open_ = some r ∧ Told v a r := by
 obtain ⟨r, h1, h2⟩ := take_total hv v.length a obj open_ (by omega) ho
 exact ⟨r, evt_eq (N := v.length + 1) fun n hn => h1 n (by omega), h2⟩
/-- Shaped is told of every list, and a list that is shaped is a tree. -/
theorem shaped_some {v : List Eng.Node} (hv : OkL v) : ∃ b, zbb_s v = some b ∧ (b = true → Tree v 0 v.length) := by
 unfold zbb_s
 by_cases h0 : 0 < v.length
 ·obtain ⟨r, h1, h2⟩ := take_some hv 0 false 0 (by omega)
  rw [show ((0 : Nat) : Int) = 0 from rfl] at h1
  rw [decide_eq_true (by omega), cond_true, h1, obS]
  refine ⟨_, rfl, fun h => ?_⟩
  have h := of_decide_eq_true h
  rcases h2 with h2 | ⟨e, h2, h3⟩
  ·omega
  ·have : e = v.length := by omega
   rwa [this] at h3
 ·rw [decide_eq_false (by omega), cond_false]
  exact ⟨false, rfl, fun h => by cases h⟩
end Go.Proofs.YtekkjbomadoplaaDoor
