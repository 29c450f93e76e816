/-
 The place behind a value, what stands in it, its members: the program's answers and the document's, of trees. No program.
-/
import Derived.Test.YtekkjbomadoplaaDoorPShaped
namespace Go.Proofs.YtekkjbomadoplaaDoor
open Go.Eng
set_option linter.unusedVariables false
set_option linter.unusedSimpArgs false

theorem w64_id {x : Int} (h : InI64 x) : w64 x = x := by
 unfold InI64 at h
 unfold w64 IntKind.wrap
 simp [IntKind.signed, IntKind.bits]
 omega
/-! ### json.Behind -/
/-- The run that counts what is still to come. -/
def jbF (v : List Eng.Node) : Nat → Int → Nat → Nat
 | 0, _, a => a
 | f + 1, left, a => if 0 < left ∧ a < v.length then jbF v f (w64 (left + w64 ((v.getD a (ET.dft .node)).kids - 1))) (a + 1) else a
theorem jbF_le (v : List Eng.Node) : ∀ (f : Nat) (left : Int) (a : Nat), a ≤ jbF v f left a ∧ (a ≤ v.length → jbF v f left a ≤ v.length)
 | 0, _, a => ⟨Nat.le_refl _, fun h => h⟩
 | f + 1, left, a => by
  unfold jbF
  split
  ·rename_i h
   obtain ⟨h1, h2⟩ := jbF_le v f (w64 (left + w64 ((v.getD a (ET.dft .node)).kids - 1))) (a + 1)
   exact ⟨by omega, fun _ => h2 (by omega)⟩
  ·exact ⟨Nat.le_refl _, fun h => h⟩
theorem p_jb (v : List Eng.Node) (hv : v.length ≤ 2000000) : ∀ (f : Nat) (left : Int) (a : Nat), v.length - a ≤ f → json_Behind_p0 (a : Int) left v = some (jbF v f left a : Int)
 | 0, left, a, h => by
  unfold json_Behind_p0
  refine whileO_inr ?_
  unfold json_Behind_p0_step
  dsimp only
  rw [decide_eq_false (show ¬ (a : Int) < v.length by omega), Bool.and_false, cond_false]
  rfl
 | f + 1, left, a, h => by
  unfold jbF
  by_cases hc : 0 < left ∧ a < v.length
  ·rw [if_pos hc]
   have ih := p_jb v hv f (w64 (left + w64 ((v.getD a (ET.dft .node)).kids - 1))) (a + 1) (by omega)
   unfold json_Behind_p0 at ih ⊢
   rw [whileO_inl (y := (((a + 1 : Nat) : Int), w64 (left + w64 ((v.getD a (ET.dft .node)).kids - 1)))) ?_]
   ·exact ih
   ·unfold json_Behind_p0_step
    dsimp only
    rw [decide_eq_true hc.1, decide_eq_true (show (a : Int) < v.length by omega), Bool.and_self, cond_true, gd_pos (by omega), gd_pos (by omega), gd_pos (by omega), gd_pos (by unfold InI64; omega)]
    rfl
  ·rw [if_neg hc]
   unfold json_Behind_p0
   refine whileO_inr ?_
   unfold json_Behind_p0_step
   dsimp only
   have : (decide (0 < left) && decide ((a : Int) < v.length)) = false := by
    rw [Bool.and_eq_false_iff, decide_eq_false_iff_not, decide_eq_false_iff_not]
    omega
   rw [this, cond_false]
theorem p_jBehind (v : List Eng.Node) (hv : v.length ≤ 2000000) {a : Nat} (ha : a < v.length) : json_Behind_s v (a : Int) = some (jbF v (v.length - a) 1 a : Int) := by
 unfold json_Behind_s
 rw [decide_eq_false (show ¬ (a : Int) < 0 by omega), decide_eq_false (show ¬ (v.length : Int) ≤ a by omega), Bool.or_self, cond_false, p_jb v hv (v.length - a) 1 a (Nat.le_refl _)]
 rfl
theorem p_jBehind_out (v : List Eng.Node) {a : Int} (ha : a < 0 ∨ (v.length : Int) ≤ a) : json_Behind_s v a = some (-1) := by
 unfold json_Behind_s
 have : (decide (a < 0) || decide ((v.length : Int) ≤ a)) = true := by
  rw [Bool.or_eq_true, decide_eq_true_eq, decide_eq_true_eq]; exact ha
 rw [this, cond_true]
theorem jbF_trees {v : List Eng.Node} (hv : v.length ≤ 2000000) {k a e : Nat} (h : Trees v k a e) : ∀ (L : Nat), L + e ≤ 4000000 → jbF v (v.length - a) ((L + k : Nat) : Int) a = jbF v (v.length - e) (L : Int) e := by
 induction h with
 | nil a ha => intro L hL; rfl
 | @cons k a b e n hn h0 h1 h2 i1 i2 =>
  intro L hL
  have ha := (List.getElem?_eq_some_iff.1 hn).1
  have l1 := h1.le
  have l2 := h2.le
  obtain ⟨m, hm⟩ := Int.eq_ofNat_of_zero_le h0
  have hmn : n.kids.toNat = m := by omega
  rw [hmn] at i1 l1
  have ih1 := i1 (L + k) (by omega)
  rw [i2 L hL] at ih1
  rw [← ih1, show v.length - a = (v.length - (a + 1)) + 1 by omega]
  conv => lhs; unfold jbF
  rw [if_pos ⟨by omega, ha⟩, nd_get hn, hm, w64_id (x := (m : Int) - 1) (by unfold InI64; omega), w64_id (by unfold InI64; omega)]
  congr 1
  omega
theorem jBehind_tree {v : List Eng.Node} (hv : v.length ≤ 2000000) {a e : Nat} (h : Tree v a e) : json_Behind_s v (a : Int) = some (e : Int) := by
 have hl := Trees.le h
 rw [p_jBehind v hv (by omega)]
 have := jbF_trees hv h 0 (by omega)
 rw [show ((0 + 1 : Nat) : Int) = 1 from rfl] at this
 rw [this]
 congr 1
 cases hf : v.length - e with
 | zero => rfl
 | succ f =>
  unfold jbF
  rw [if_neg (fun h => by have := h.1; simp at this)]
/-- Of whatever list: it goes on. -/
theorem jBehind_some (v : List Eng.Node) (hv : v.length ≤ 2000000) (a : Nat) : ∃ r : Int, json_Behind_s v (a : Int) = some r ∧ (a < v.length → ∃ b : Nat, r = b ∧ a < b ∧ b ≤ v.length) ∧ -1 ≤ r ∧ r ≤ 2000000 := by
 by_cases ha : a < v.length
 ·obtain ⟨h1, h2⟩ := jbF_le v (v.length - a) 1 a
  have h3 := h2 (by omega)
  refine ⟨_, p_jBehind v hv ha, fun _ => ⟨_, rfl, ?_, h3⟩, by omega, by omega⟩
  rw [show v.length - a = (v.length - (a + 1)) + 1 by omega]
  unfold jbF
  rw [if_pos ⟨by omega, ha⟩]
  have := (jbF_le v (v.length - (a + 1)) (w64 (1 + w64 ((v.getD a (ET.dft .node)).kids - 1))) (a + 1)).1
  omega
 ·exact ⟨-1, p_jBehind_out v (.inr (by omega)), fun h => (ha h).elim, by omega, by omega⟩
/-! ### the document's Behind -/
theorem rb_loop {v : List Eng.Node} (hv : v.length ≤ 2000000) {a : Nat} (ha : a < v.length) {kids : Nat} (hk : (v.getD a (ET.dft .node)).kids = kids) (hkb : kids ≤ 4000000) {self : List Eng.Node → Int → Option Int} (hself : ∀ b e : Nat, a < b → Tree v b e → self v (b : Int) = some (e : Int)) :
  ∀ (k i next e : Nat), i + k = kids → a < next → Trees v k next e → zax_p0 self (a : Int) (next : Int) (i : Int) v = some (e : Int)
 | 0, i, next, e, h1, h2, h => by
  have := h.zero
  subst this
  unfold zax_p0
  refine whileO_inr ?_
  unfold zax_p0_step
  dsimp only
  rw [gd_pos (by omega), gd_pos (by omega), gd_pos (by omega), Int.toNat_natCast, hk, decide_eq_false (show ¬ (i : Int) < kids by omega), Bool.false_and, cond_false]
 | k + 1, i, next, e, h1, h2, h => by
  obtain ⟨b, g1, g2⟩ := h.one
  have l1 := Trees.le g1
  have l3 := h.le
  have ih := rb_loop hv ha hk hkb hself k (i + 1) b e (by omega) (by omega) g2
  unfold zax_p0 at ih ⊢
  rw [whileO_inl (y := ((b : Int), ((i + 1 : Nat) : Int))) ?_]
  ·exact ih
  ·unfold zax_p0_step
   dsimp only
   rw [gd_pos (by omega), gd_pos (by omega), gd_pos (by omega), Int.toNat_natCast, hk, decide_eq_true (show (i : Int) < kids by omega), decide_eq_true (show (0 : Int) ≤ next by omega), Bool.and_self, cond_true, hself next b h2 g1, obS]
   exact (gd_pos (by unfold InI64; omega) _).trans rfl
theorem rb_all {v : List Eng.Node} (hv : v.length ≤ 2000000) : ∀ (m a e : Nat), v.length - a ≤ m → Tree v a e → ∀ n, m < n → zax_n n v (a : Int) = some (e : Int)
 | 0, a, e, h, ht, n, hn => by
  have := Trees.le ht
  omega
 | m + 1, a, e, h, ht, n, hn => by
  obtain ⟨nd, h1, h2, h3⟩ := ht.node
  have ha := (List.getElem?_eq_some_iff.1 h1).1
  have l3 := h3.le
  obtain ⟨kk, hkk⟩ := Int.eq_ofNat_of_zero_le h2
  rw [hkk, Int.toNat_natCast] at h3 l3
  cases n with
  | zero => omega
  | succ n =>
   show zax_t (zax_n n) v a = _
   unfold zax_t
   rw [decide_eq_false (show ¬ (a : Int) < 0 by omega), decide_eq_false (show ¬ (v.length : Int) ≤ a by omega), Bool.or_self, cond_false, gd_pos (by unfold InI64; omega)]
   have := rb_loop hv ha (kids := kk) (by rw [nd_get h1, hkk]) (by omega) (self := zax_n n) (fun b e' hb hb2 => rb_all hv m b e' (by omega) hb2 n (by omega)) kk 0 (a + 1) e (by omega) (by omega) h3
   rw [show ((a + 1 : Nat) : Int) = (a : Int) + 1 by omega, show ((0 : Nat) : Int) = 0 from rfl] at this
   rw [this]
   rfl
theorem rBehind_tree {v : List Eng.Node} (hv : v.length ≤ 2000000) {a e : Nat} (h : Tree v a e) : zax_s v (a : Int) = some (e : Int) :=
 evt_eq (N := v.length + 1) fun n hn => rb_all hv v.length a e (by omega) h n (by omega)
/-! ### what stands in a value -/
def upN (l : List Nat) : List Int := l.map fun x : Nat => (x : Int)
theorem upN_len (l : List Nat) : (upN l).length = l.length := by simp [upN]
theorem r_kids_loop {v : List Eng.Node} (hv : v.length ≤ 2000000) {a : Nat} (ha : a < v.length) {kids : Nat} (hk : (v.getD a (ET.dft .node)).kids = kids) (hkb : kids ≤ 4000000) :
  ∀ (k i next e : Nat) (l : List Nat) (out : List Int), i + k = kids → out.length = i → Trees v k next e → placesT v k next l e → zay_p0 (a : Int) (next : Int) (i : Int) v out = some (out ++ upN l)
 | 0, i, next, e, l, out, h1, ho, h, hp => by
  obtain ⟨rfl, rfl⟩ := hp
  unfold zay_p0
  refine whileO_inr ?_
  unfold zay_p0_step
  dsimp only
  rw [gd_pos (by omega), gd_pos (by omega), gd_pos (by omega), Int.toNat_natCast, hk, decide_eq_false (show ¬ (i : Int) < kids by omega), Bool.false_and, Bool.false_and, cond_false]
  simp [upN]
 | k + 1, i, next, e, l, out, h1, ho, h, hp => by
  obtain ⟨b, r, rfl, g1, g3⟩ := hp
  obtain ⟨b', g1', g2⟩ := h.one
  have := Trees.det g1 g1'
  subst this
  have l1 := Trees.le g1
  have ih := r_kids_loop hv ha hk hkb k (i + 1) b e r (out ++ [(next : Int)]) (by omega) (by simp [ho]) g2 g3
  unfold zay_p0 at ih ⊢
  rw [whileO_inl (y := ((b : Int), ((i + 1 : Nat) : Int), out ++ [(next : Int)])) ?_]
  ·rw [ih]
   simp [upN]
  ·unfold zay_p0_step
   dsimp only
   rw [gd_pos (by omega), gd_pos (by omega), gd_pos (by omega), Int.toNat_natCast, hk, decide_eq_true (show (i : Int) < kids by omega), decide_eq_true (show (0 : Int) ≤ next by omega), decide_eq_true (show (next : Int) < v.length by omega), Bool.and_self, Bool.and_self, cond_true]
   rw [gd_pos (by simp only [List.length_singleton, ho]; omega), rBehind_tree hv g1, obS]
   exact (gd_pos (by unfold InI64; omega) _).trans rfl
theorem r_kids {v : List Eng.Node} (hv : v.length ≤ 2000000) {a e : Nat} {nd : Eng.Node} (h1 : v[a]? = some nd) (h2 : 0 ≤ nd.kids) (h3 : Trees v nd.kids.toNat (a + 1) e) {l : List Nat} (hl : placesT v nd.kids.toNat (a + 1) l e) : zay_s v (a : Int) = some (upN l) := by
 have ha := (List.getElem?_eq_some_iff.1 h1).1
 have l3 := h3.le
 obtain ⟨kk, hkk⟩ := Int.eq_ofNat_of_zero_le h2
 rw [hkk, Int.toNat_natCast] at h3 l3 hl
 unfold zay_s
 rw [decide_eq_false (show ¬ (a : Int) < 0 by omega), decide_eq_false (show ¬ (v.length : Int) ≤ a by omega), Bool.or_self, cond_false, gd_pos (by unfold InI64; omega)]
 have := r_kids_loop hv ha (kids := kk) (by rw [nd_get h1, hkk]) (by omega) kk 0 (a + 1) e l [] (by omega) rfl h3 hl
 rw [show ((a + 1 : Nat) : Int) = (a : Int) + 1 by omega, show ((0 : Nat) : Int) = 0 from rfl] at this
 rw [this]
 rfl
/-! ### members -/
/-- The first of the places whose node has the name. -/
def findK (v : List Eng.Node) (key : ByteArray) : List Nat → Option Nat
 | [] => none
 | p :: r => if (v.getD p (ET.dft .node)).key = key then some p else findK v key r
theorem j_mem_loop {v : List Eng.Node} (hv : v.length ≤ 2000000) {a : Nat} (ha : a < v.length) {kids : Nat} (hk : (v.getD a (ET.dft .node)).kids = kids) (hkb : kids ≤ 4000000) (key : ByteArray) :
  ∀ (k i next e : Nat) (l : List Nat), i + k = kids → Trees v k next e → placesT v k next l e → json_Member_p0 (a : Int) key (next : Int) (i : Int) v = some (match findK v key l with | some p => .inl (p : Int) | none => .inr ())
 | 0, i, next, e, l, h1, h, hp => by
  obtain ⟨rfl, rfl⟩ := hp
  unfold json_Member_p0
  refine whileO_inr ?_
  unfold json_Member_p0_step
  dsimp only
  rw [gd_pos (by omega), gd_pos (by omega), gd_pos (by omega), Int.toNat_natCast, hk, decide_eq_false (show ¬ (i : Int) < kids by omega), Bool.false_and, Bool.false_and, cond_false]
  rfl
 | k + 1, i, next, e, l, h1, h, hp => by
  obtain ⟨b, r, rfl, g1, g3⟩ := hp
  obtain ⟨b', g1', g2⟩ := h.one
  have := Trees.det g1 g1'
  subst this
  have l1 := Trees.le g1
  have ih := j_mem_loop hv ha hk hkb key k (i + 1) b e r (by omega) g2 g3
  unfold findK
  by_cases hkey : (v.getD next (ET.dft .node)).key = key
  ·rw [if_pos hkey]
   unfold json_Member_p0
   refine whileO_inr ?_
   unfold json_Member_p0_step
   dsimp only
   rw [gd_pos (by omega), gd_pos (by omega), gd_pos (by omega), Int.toNat_natCast, hk, decide_eq_true (show (i : Int) < kids by omega), decide_eq_true (show (0 : Int) ≤ next by omega), decide_eq_true (show (next : Int) < v.length by omega), Bool.and_self, Bool.and_self, cond_true]
   rw [gd_pos (by omega), gd_pos (by omega), gd_pos (by omega), Int.toNat_natCast, decide_eq_true hkey, cond_true]
  ·rw [if_neg hkey, ← ih]
   unfold json_Member_p0
   rw [whileO_inl (y := ((b : Int), ((i + 1 : Nat) : Int))) ?_]
   unfold json_Member_p0_step
   dsimp only
   rw [gd_pos (by omega), gd_pos (by omega), gd_pos (by omega), Int.toNat_natCast, hk, decide_eq_true (show (i : Int) < kids by omega), decide_eq_true (show (0 : Int) ≤ next by omega), decide_eq_true (show (next : Int) < v.length by omega), Bool.and_self, Bool.and_self, cond_true]
   rw [gd_pos (by omega), gd_pos (by omega), gd_pos (by omega), Int.toNat_natCast, decide_eq_false hkey, cond_false, jBehind_tree hv g1, obS]
   exact (gd_pos (by unfold InI64; omega) _).trans rfl
theorem r_mem_loop {v : List Eng.Node} (hv : v.length ≤ 2000000) (key : ByteArray) {L : List Nat} (hL : L.length ≤ 4000000) (hin : ∀ p ∈ L, p < v.length) :
  ∀ (pre l : List Nat), L = pre ++ l → signetref3_Member_p0 key (pre.length : Int) v (upN L) = some (match findK v key l with | some p => .inl (p : Int) | none => .inr ())
 | pre, [], h => by
  unfold signetref3_Member_p0
  refine whileO_inr ?_
  unfold signetref3_Member_p0_step
  rw [upN_len, decide_eq_false (by rw [h]; simp), cond_false]
  rfl
 | pre, p :: r, h => by
  have ih := r_mem_loop hv key hL hin (pre ++ [p]) r (by rw [h]; simp)
  have hlt : pre.length < L.length := by rw [h]; simp
  have hget : (upN L).getD pre.length (ET.dft .i64) = (p : Int) := by
   rw [List.getD_eq_getElem?_getD]
   unfold upN
   rw [List.getElem?_map, h, List.getElem?_append_right (Nat.le_refl _), Nat.sub_self]
   rfl
  have hp := hin p (by rw [h]; simp)
  unfold findK
  by_cases hkey : (v.getD p (ET.dft .node)).key = key
  ·rw [if_pos hkey]
   unfold signetref3_Member_p0
   refine whileO_inr ?_
   unfold signetref3_Member_p0_step
   rw [upN_len, decide_eq_true (by omega), cond_true, gd_pos (by omega), Int.toNat_natCast, gd_pos (by omega), hget, Int.toNat_natCast, gd_pos (by omega), gd_pos (by omega), gd_pos (by omega), decide_eq_true hkey, cond_true, gd_pos (by omega), gd_pos (by omega)]
  ·rw [if_neg hkey, ← ih]
   unfold signetref3_Member_p0
   rw [whileO_inl (y := ((pre ++ [p]).length : Int)) ?_]
   unfold signetref3_Member_p0_step
   rw [upN_len, decide_eq_true (by omega), cond_true, gd_pos (by omega), Int.toNat_natCast, gd_pos (by omega), hget, Int.toNat_natCast, gd_pos (by omega), gd_pos (by omega), gd_pos (by omega), decide_eq_false hkey, cond_false]
   refine (gd_pos (by unfold InI64; omega) _).trans ?_
   rw [List.length_append]
   rfl
theorem places_in {v : List Eng.Node} : ∀ {k a e : Nat} {l : List Nat}, placesT v k a l e → ∀ p ∈ l, p < v.length
 | 0, a, e, l, h, p, hp => by rw [h.1] at hp; cases hp
 | k + 1, a, e, l, h, p, hp => by
  obtain ⟨b, r, rfl, g1, g2⟩ := h
  rcases List.mem_cons.1 hp with rfl | hp
  ·have := Trees.le g1; omega
  ·exact places_in g2 p hp
/-- The member of a tree, as both tell it. -/
theorem member_tree {v : List Eng.Node} (hv : v.length ≤ 2000000) {a e : Nat} (h : Tree v a e) (key : ByteArray) : ∃ r, json_Member_s v (a : Int) key = some r ∧ signetref3_Member_s v (a : Int) key = some r ∧ -1 ≤ r ∧ r < v.length := by
 obtain ⟨nd, h1, h2, h3⟩ := h.node
 have ha := (List.getElem?_eq_some_iff.1 h1).1
 have l3 := h3.le
 obtain ⟨l, hl⟩ := h3.places
 have hkids := r_kids hv h1 h2 h3 hl
 have hlen := hl.len
 obtain ⟨kk, hkk⟩ := Int.eq_ofNat_of_zero_le h2
 rw [hkk, Int.toNat_natCast] at h3 l3 hl hlen
 have hj := j_mem_loop hv ha (kids := kk) (by rw [nd_get h1, hkk]) (by omega) key kk 0 (a + 1) e l (by omega) h3 hl
 have hr := r_mem_loop hv key (L := l) (by omega) (places_in hl) [] l rfl
 rw [show ((a + 1 : Nat) : Int) = (a : Int) + 1 by omega, show ((0 : Nat) : Int) = 0 from rfl] at hj
 rw [show (([] : List Nat).length : Int) = 0 from rfl] at hr
 have e1 : (decide ((a : Int) < 0) || decide ((v.length : Int) ≤ a)) = false := by
  rw [decide_eq_false (show ¬ (a : Int) < 0 by omega), decide_eq_false (show ¬ (v.length : Int) ≤ a by omega)]; rfl
 unfold json_Member_s signetref3_Member_s
 rw [e1]
 simp only [Int.toNat_natCast]
 rw [gd_pos (fun _ => by omega), gd_pos (fun _ => by omega), gd_pos (fun _ => by omega), gd_pos (fun _ => by omega), gd_pos (fun _ => by omega), gd_pos (fun _ => by omega), Bool.false_or]
 by_cases h7 : (v.getD a (ET.dft .node)).kind = 7
 ·rw [decide_eq_true h7, Bool.not_true, cond_false, cond_false, gd_pos (by unfold InI64; omega), hj, obS, hkids, obS, hr, obS]
  cases hf : findK v key l with
  | none => exact ⟨-1, rfl, rfl, by omega, by omega⟩
  | some p =>
   refine ⟨(p : Int), rfl, rfl, by omega, ?_⟩
   have : p ∈ l := by
    clear hj hr hl hkids hlen
    induction l with
    | nil => cases hf
    | cons q r ih =>
     unfold findK at hf
     split at hf
     ·cases hf; exact List.mem_cons_self
     ·exact List.mem_cons_of_mem _ (ih hf)
   have := places_in hl p this
   omega
 ·rw [decide_eq_false h7, Bool.not_false, cond_true, cond_true]
  exact ⟨-1, rfl, rfl, by omega, by omega⟩
end Go.Proofs.YtekkjbomadoplaaDoor
