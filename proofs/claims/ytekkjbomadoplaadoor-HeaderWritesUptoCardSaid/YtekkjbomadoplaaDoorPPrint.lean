/-
 How a value is written: the program and the document write the same text. No program.
-/
import Derived.Test.YtekkjbomadoplaaDoorPShape
import Derived.Test.YtekkjbomadoplaaDoorPFind
import Derived.Test.YtekkjbomadoplaaDoorPQuote
namespace Go.Proofs.YtekkjbomadoplaaDoor
open Go.Eng
set_option linter.unusedVariables false
set_option linter.unusedSimpArgs false

/-! ### values are trees -/
theorem kidsS_tree {v : List Eng.Node} {one : Nat → Option Nat} {obj : Bool} (h : ∀ a e, one a = some e → Tree v a e) : ∀ (k a : Nat) (names : List ByteArray) (e : Nat), a ≤ v.length → kidsS v one obj k a names = some e → Trees v k a e
 | 0, a, names, e, ha, hk => by
  cases hk
  exact Trees.nil a ha
 | k + 1, a, names, e, ha, hk => by
  unfold kidsS at hk
  cases ho : one a with
  | none => rw [ho] at hk; cases hk
  | some b =>
   rw [ho] at hk
   dsimp only at hk
   split at hk
   ·cases hk
   ·have hb := h a b ho
    exact Trees.app hb (kidsS_tree h k b _ e hb.le.2 hk)
theorem oneS_ok {v : List Eng.Node} (hv : OkL v) {d : Nat} {obj : Bool} {a e : Nat} (h : oneS v d obj a = some e) : ∃ n, v[a]? = some n ∧ n ∈ v ∧ a < v.length ∧ v.getD a (ET.dft .node) = n ∧ okB obj n = true ∧ pB n = true ∧ 0 ≤ n.kids ∧ (0 < n.kids → 6 ≤ n.kind) ∧ n.kind ≤ 7 ∧
  ((d = 0 ∧ n.kind < 6 ∧ e = a + 1) ∨ ∃ d', d = d' + 1 ∧ kidsS v (oneS v d' (decide (n.kind = 7))) (decide (n.kind = 7)) n.kids.toNat (a + 1) [] = some e) := by
 by_cases ha : a < v.length
 ·obtain ⟨n, hn, hmem, hget⟩ := nd_some ha
  have hp := (pB_both (hv.2 n hmem)).2.2
  have key : okB obj n = true → pB n = true := fun h => by unfold okB at h; simp only [Bool.and_eq_true] at h; exact h.1.1
  cases d with
  | zero =>
   unfold oneS at h
   rw [hn] at h
   dsimp only at h
   split at h
   ·rename_i hc
    cases h
    have hp := hp (key hc.1)
    exact ⟨n, hn, hmem, ha, hget, hc.1, key hc.1, hp.1, hp.2.1, hp.2.2, .inl ⟨rfl, hc.2, rfl⟩⟩
   ·cases h
  | succ d =>
   unfold oneS at h
   rw [hn] at h
   dsimp only at h
   split at h
   ·rename_i hc
    have hp := hp (key hc)
    exact ⟨n, hn, hmem, ha, hget, hc, key hc, hp.1, hp.2.1, hp.2.2, .inr ⟨d, rfl, h⟩⟩
   ·cases h
 ·have := oneS_le v d obj a e h
  omega
theorem oneS_tree {v : List Eng.Node} (hv : OkL v) : ∀ (d : Nat) (obj : Bool) (a e : Nat), oneS v d obj a = some e → Tree v a e := by
 intro d
 induction d with
 | zero =>
  intro obj a e h
  obtain ⟨n, h1, h2, h3, h4, h5, h6, h7, h8, h9, h10⟩ := oneS_ok hv h
  rcases h10 with ⟨_, h11, rfl⟩ | ⟨d', h, _⟩
  ·refine Tree.mk h1 h7 ?_
   rw [show n.kids.toNat = 0 by omega]
   exact Trees.nil _ (by omega)
  ·cases h
 | succ d ih =>
  intro obj a e h
  obtain ⟨n, h1, h2, h3, h4, h5, h6, h7, h8, h9, h10⟩ := oneS_ok hv h
  rcases h10 with ⟨h, _⟩ | ⟨d', h, h11⟩
  ·cases h
  ·have : d' = d := by omega
   subst this
   exact Tree.mk h1 h7 (kidsS_tree (fun a e => ih _ a e) _ _ _ _ (by omega) h11)

/-! ### what is written -/
def scalL (n : Eng.Node) : List Int :=
 if n.kind = 1 then [110, 117, 108, 108] else if n.kind = 2 then [102, 97, 108, 115, 101] else if n.kind = 3 then [116, 114, 117, 101] else if n.kind = 4 then bytesL n.text else quoL n.text
def keyL (v : List Eng.Node) (obj : Bool) (a : Nat) : List Int := if obj = true then quoL (keyAt v a) ++ [58] else []
def commaL (first : Bool) : List Int := if first = true then [] else [44]
noncomputable def prKids (v : List Eng.Node) (one : Nat → Option Nat) (pr : Nat → List Int) (obj : Bool) : Nat → Nat → Bool → List Int
 | 0, _, _ => []
 | k + 1, a, first => commaL first ++ (keyL v obj a ++ (pr a ++ prKids v one pr obj k ((one a).getD 0) false))
noncomputable def prOne (v : List Eng.Node) : Nat → Nat → List Int
 | 0, a => scalL (v.getD a (ET.dft .node))
 | d + 1, a =>
  if (v.getD a (ET.dft .node)).kind < 6 then scalL (v.getD a (ET.dft .node))
  else (if (v.getD a (ET.dft .node)).kind = 7 then 123 else 91) :: (prKids v (oneS v d (decide ((v.getD a (ET.dft .node)).kind = 7))) (prOne v d) (decide ((v.getD a (ET.dft .node)).kind = 7)) (v.getD a (ET.dft .node)).kids.toNat (a + 1) true ++ [if (v.getD a (ET.dft .node)).kind = 7 then 125 else 93])
theorem scalL_len {n : Eng.Node} (h : OkN n) : (scalL n).length ≤ 18000002 := by
 have h1 := quoL_len n.text
 have h2 := bytesL_size n.text
 have h3 := h.text
 unfold scalL
 split
 ·simp
 split
 ·simp
 split
 ·simp
 split <;> omega
theorem scalL_range (n : Eng.Node) : ∀ x ∈ scalL n, 0 ≤ x ∧ x < 256 := by
 unfold scalL
 split
 ·intro x hx; simp at hx; omega
 split
 ·intro x hx; simp at hx; omega
 split
 ·intro x hx; simp at hx; omega
 split
 ·exact bytesL_range _
 ·exact quoL_range _
theorem keyL_len {v : List Eng.Node} (hv : OkL v) (obj : Bool) {a : Nat} (ha : a < v.length) : (keyL v obj a).length ≤ 18000003 := by
 obtain ⟨n, hn, hmem, hget⟩ := nd_some ha
 have h1 := quoL_len n.key
 have h2 := (hv.2 n hmem).key
 unfold keyL keyAt
 rw [hget]
 split
 ·simp only [List.length_append, List.length_singleton]; omega
 ·simp
theorem kids_len {v : List Eng.Node} (hv : OkL v) {one : Nat → Option Nat} {pr : Nat → List Int} {obj : Bool} (hone : ∀ a e, one a = some e → a < e ∧ e ≤ v.length) (hpr : ∀ a e, one a = some e → (pr a).length + 18000004 ≤ 40000000 * (e - a)) :
  ∀ (k a : Nat) (first : Bool) (names : List ByteArray) (e : Nat), a ≤ v.length → kidsS v one obj k a names = some e → (prKids v one pr obj k a first).length ≤ 40000000 * (e - a)
 | 0, a, first, names, e, ha, h => by simp [prKids]
 | k + 1, a, first, names, e, ha, h => by
  unfold kidsS at h
  cases ho : one a with
  | none => rw [ho] at h; cases h
  | some b =>
   rw [ho] at h
   dsimp only at h
   split at h
   ·cases h
   ·have hb := hone a b ho
    have hp := hpr a b ho
    have ih := kids_len hv hone hpr k b false _ e hb.2 h
    have hle := kidsS_le hone k b _ e hb.2 h
    have hkl := keyL_len hv obj (a := a) (by omega)
    have hcm : (commaL first).length ≤ 1 := by unfold commaL; split <;> simp
    unfold prKids
    rw [ho]
    simp only [List.length_append, Option.getD_some]
    omega
theorem prOne_len {v : List Eng.Node} (hv : OkL v) : ∀ (d : Nat) (obj : Bool) (a e : Nat), oneS v d obj a = some e → (prOne v d a).length + 18000004 ≤ 40000000 * (e - a) := by
 intro d
 induction d with
 | zero =>
  intro obj a e h
  have hle := oneS_le v 0 obj a e h
  obtain ⟨n, h1, h2, h3, h4, h5, h6, h7, h8, h9, h10⟩ := oneS_ok hv h
  have := scalL_len (hv.2 n h2)
  unfold prOne
  rw [h4]
  omega
 | succ d ih =>
  intro obj a e h
  have hle := oneS_le v (d + 1) obj a e h
  obtain ⟨n, h1, h2, h3, h4, h5, h6, h7, h8, h9, h10⟩ := oneS_ok hv h
  have hs := scalL_len (hv.2 n h2)
  unfold prOne
  rw [h4]
  split
  ·omega
  ·rcases h10 with ⟨h, _⟩ | ⟨d', h, h11⟩
   ·cases h
   ·have : d' = d := by omega
    subst this
    have := kids_len hv (oneS_le v d' (decide (n.kind = 7))) (fun a e => ih _ a e) _ _ true _ _ (by omega) h11
    have hle2 := kidsS_le (oneS_le v d' (decide (n.kind = 7))) _ _ _ _ (by omega) h11
    simp only [List.length_cons, List.length_append, List.length_nil]
    omega

/-! ### the program -/
theorem sp_p2 {v : List Eng.Node} (hv : OkL v) {self : strings_Builder → List Eng.Node → Int → Option (strings_Builder × Int)} {pr : Nat → List Int} {a e1 : Nat} (ha : a < v.length) (kd : Int)
  (hs : ∀ (ad : Bool) (buf : List Int), buf.length + 18000000 ≤ 120000000000000 + 18000004 → buf.length + 40000000 * (e1 - a) ≤ 120000000000000 + 18000004 → self ⟨ad, buf⟩ v (a : Int) = some (⟨true, buf ++ pr a⟩, (e1 : Int)))
  (ad : Bool) (buf : List Int) (hb : buf.length + 40000000 * (e1 - a) ≤ 120000000000000) (he : a < e1) :
  zam_p2 self (a : Int) ad v kd buf = some ((e1 : Int), true, buf ++ (keyL v (decide (kd = 7)) a ++ pr a)) := by
 have hlen := hv.1
 obtain ⟨n, hn, hmem, hget⟩ := nd_some ha
 have hk := (hv.2 n hmem).key
 have hq := quoL_len n.key
 unfold zam_p2 keyL keyAt
 rw [hget]
 by_cases h7 : kd = 7
 ·rw [decide_eq_true h7, cond_true, if_pos rfl, gd_pos (by omega), gd_pos (by omega), gd_pos (by omega), Int.toNat_natCast, hget]
  rw [p_quote _ _ _ hk (by omega), obS, p_wb _ _ _ (by simp only [List.length_append]; omega), obS]
  rw [hs true (buf ++ quoL n.key ++ [58]) (by simp only [List.length_append, List.length_singleton]; omega) (by simp only [List.length_append, List.length_singleton]; omega), obS]
  simp only [List.append_assoc]
 ·rw [decide_eq_false h7, cond_false, if_neg (by decide), hs ad buf (by omega) (by omega), obS, List.nil_append]
theorem sp_p1 {v : List Eng.Node} (hv : OkL v) {self : strings_Builder → List Eng.Node → Int → Option (strings_Builder × Int)} {one : Nat → Option Nat} {pr : Nat → List Int} (kd : Int) (hone : ∀ a e, one a = some e → a < e ∧ e ≤ v.length)
  (hpr : ∀ a e, one a = some e → (pr a).length + 18000004 ≤ 40000000 * (e - a))
  (hs : ∀ (a e : Nat), one a = some e → ∀ (ad : Bool) (buf : List Int), buf.length + 40000000 * (e - a) ≤ 120000000000000 + 18000004 → self ⟨ad, buf⟩ v (a : Int) = some (⟨true, buf ++ pr a⟩, (e : Int))) (K : Nat) (hK : (K : Int) ≤ 9223372036854775807) :
  ∀ (k i a : Nat) (names : List ByteArray) (e : Nat) (buf : List Int), i + k = K → a ≤ v.length → kidsS v one (decide (kd = 7)) k a names = some e → buf.length + 40000000 * (e - a) + 1 ≤ 120000000000000 →
   zam_p1 self (a : Int) (K : Int) (i : Int) true v kd buf = some ((e : Int), true, buf ++ prKids v one pr (decide (kd = 7)) k a (decide (i = 0)))
 | 0, i, a, names, e, buf, h, ha, hk, hb => by
  cases hk
  show _ = some ((a : Int), true, buf ++ [])
  rw [List.append_nil]
  unfold zam_p1
  refine whileO_inr ?_
  unfold zam_p1_step
  dsimp only
  rw [decide_eq_false (by omega), cond_false]
 | k + 1, i, a, names, e, buf, h, ha, hk, hb => by
  unfold kidsS at hk
  cases ho : one a with
  | none => rw [ho] at hk; cases hk
  | some b =>
   rw [ho] at hk
   dsimp only at hk
   split at hk
   ·cases hk
   ·have hle := hone a b ho
    have hle2 := kidsS_le hone k b _ e hle.2 hk
    have hp := hpr a b ho
    have hkl := keyL_len hv (decide (kd = 7)) (a := a) (by omega)
    have hst : zam_p1_step self (a : Int) (K : Int) (i : Int) true v kd buf = some (.inl ((b : Int), ((i + 1 : Nat) : Int), true, buf ++ commaL (decide (i = 0)) ++ (keyL v (decide (kd = 7)) a ++ pr a))) := by
     unfold zam_p1_step
     rw [decide_eq_true (by omega), cond_true]
     by_cases hi : i = 0
     ·rw [decide_eq_false (by omega), cond_false, sp_p2 hv (pr := pr) (e1 := b) (by omega) kd (fun ad buf _ h2 => hs a b ho ad buf h2) true buf (by omega) hle.1, obS, decide_eq_true hi]
      show gd _ _ = some (Sum.inl ((b : Int), ((i + 1 : Nat) : Int), true, buf ++ [] ++ _))
      rw [List.append_nil]
      exact gd_pos (by unfold InI64; omega) _
     ·rw [decide_eq_true (by omega), cond_true, p_wb _ _ _ (by omega), obS, sp_p2 hv (pr := pr) (e1 := b) (by omega) kd (fun ad buf _ h2 => hs a b ho ad buf h2) true (buf ++ [44]) (by simp only [List.length_append, List.length_singleton]; omega) hle.1, obS, decide_eq_false hi]
      exact gd_pos (by unfold InI64; omega) _
    have hcm : (commaL (decide (i = 0))).length ≤ 1 := by unfold commaL; split <;> simp
    have ih := sp_p1 hv kd hone hpr hs K hK k (i + 1) b _ e (buf ++ commaL (decide (i = 0)) ++ (keyL v (decide (kd = 7)) a ++ pr a)) (by omega) hle.2 hk (by simp only [List.length_append]; omega)
    rw [decide_eq_false (show ¬ (i + 1 = 0) by omega)] at ih
    unfold prKids
    rw [ho, Option.getD_some]
    simp only [List.append_assoc] at ih ⊢
    rw [← ih]
    unfold zam_p1
    rw [whileO_inl hst]
    simp only [List.append_assoc]
theorem sp_all {v : List Eng.Node} (hv : OkL v) : ∀ (d : Nat) (obj : Bool) (a e n : Nat), oneS v d obj a = some e → d < n → ∀ (ad : Bool) (buf : List Int), buf.length + 40000000 * (e - a) ≤ 120000000000000 + 18000004 →
  zam_n n ⟨ad, buf⟩ v (a : Int) = some (⟨true, buf ++ prOne v d a⟩, (e : Int)) := by
 have hlen := hv.1
 intro d
 induction d with
 | zero =>
  intro obj a e n h hn ad buf hb
  have hle := oneS_le v 0 obj a e h
  obtain ⟨nd, h1, h2, h3, h4, h5, h6, h7, h8, h9, h10⟩ := oneS_ok hv h
  rcases h10 with ⟨_, h11, rfl⟩ | ⟨d', h, _⟩
  ·cases n with
   | zero => omega
   | succ n =>
    show zam_t (zam_n n) ⟨ad, buf⟩ v a = _
    have htx := (hv.2 nd h2).text
    unfold zam_t prOne scalL
    rw [gd_pos (by omega), gd_pos (by omega), gd_pos (by unfold InI64; omega), Int.toNat_natCast, h4]
    by_cases k1 : nd.kind = 1
    ·rw [decide_eq_true k1, cond_true, if_pos k1, p_ws _ _ _ (by show _ + 4 ≤ _; omega)]; rfl
    rw [decide_eq_false k1, cond_false, if_neg k1]
    by_cases k2 : nd.kind = 2
    ·rw [decide_eq_true k2, cond_true, if_pos k2, p_ws _ _ _ (by show _ + 5 ≤ _; omega)]; rfl
    rw [decide_eq_false k2, cond_false, if_neg k2]
    by_cases k3 : nd.kind = 3
    ·rw [decide_eq_true k3, cond_true, if_pos k3, p_ws _ _ _ (by show _ + 4 ≤ _; omega)]; rfl
    rw [decide_eq_false k3, cond_false, if_neg k3]
    by_cases k4 : nd.kind = 4
    ·rw [decide_eq_true k4, cond_true, if_pos k4, p_ws _ _ _ (by omega)]; rfl
    rw [decide_eq_false k4, cond_false, if_neg k4]
    by_cases k5 : nd.kind = 5
    ·rw [decide_eq_true k5, cond_true, p_quote _ _ _ htx (by omega)]; rfl
    have hc : ((((decide (nd.kind < (1 : Int))) || (decide ((7 : Int) < nd.kind))) || (decide (nd.kids < (0 : Int)))) || (((decide ((0 : Int) < nd.kids)) && (!decide (nd.kind = (6 : Int)))) && (!decide (nd.kind = (7 : Int))))) = true := by
     rw [decide_eq_true (show nd.kind < 1 by omega)]; rfl
    have := pB_both (hv.2 nd h2)
    have hj := this.1
    rw [h6] at hj
    unfold zak_s at hj
    rw [hc, cond_true] at hj
    cases hj
  ·cases h
 | succ d ih =>
  intro obj a e n h hn ad buf hb
  have hle := oneS_le v (d + 1) obj a e h
  obtain ⟨nd, h1, h2, h3, h4, h5, h6, h7, h8, h9, h10⟩ := oneS_ok hv h
  rcases h10 with ⟨h, _⟩ | ⟨d', h, h11⟩
  ·cases h
  ·have : d' = d := by omega
   subst this
   cases n with
   | zero => omega
   | succ n =>
    show zam_t (zam_n n) ⟨ad, buf⟩ v a = _
    have htx := (hv.2 nd h2).text
    have hki := (hv.2 nd h2).kids
    unfold InI64 at hki
    unfold zam_t prOne scalL
    rw [gd_pos (by omega), gd_pos (by omega), gd_pos (by unfold InI64; omega), Int.toNat_natCast, h4]
    have hsc : nd.kind < 6 → e = a + 1 := fun hk => by
     rw [show nd.kids.toNat = 0 by omega] at h11
     cases h11
     rfl
    by_cases k1 : nd.kind = 1
    ·rw [hsc (by omega), decide_eq_true k1, cond_true, if_pos (by omega), if_pos k1, p_ws _ _ _ (by show _ + 4 ≤ _; omega)]; rfl
    rw [decide_eq_false k1, cond_false, if_neg k1]
    by_cases k2 : nd.kind = 2
    ·rw [hsc (by omega), decide_eq_true k2, cond_true, if_pos (by omega), if_pos k2, p_ws _ _ _ (by show _ + 5 ≤ _; omega)]; rfl
    rw [decide_eq_false k2, cond_false, if_neg k2]
    by_cases k3 : nd.kind = 3
    ·rw [hsc (by omega), decide_eq_true k3, cond_true, if_pos (by omega), if_pos k3, p_ws _ _ _ (by show _ + 4 ≤ _; omega)]; rfl
    rw [decide_eq_false k3, cond_false, if_neg k3]
    by_cases k4 : nd.kind = 4
    ·rw [hsc (by omega), decide_eq_true k4, cond_true, if_pos (by omega), if_pos k4, p_ws _ _ _ (by omega)]; rfl
    rw [decide_eq_false k4, cond_false, if_neg k4]
    by_cases k5 : nd.kind = 5
    ·rw [hsc (by omega), decide_eq_true k5, cond_true, if_pos (by omega), p_quote _ _ _ htx (by omega)]; rfl
    rw [decide_eq_false k5, cond_false]
    by_cases k6 : nd.kind < 6
    ·exfalso
     have hc : ((((decide (nd.kind < (1 : Int))) || (decide ((7 : Int) < nd.kind))) || (decide (nd.kids < (0 : Int)))) || (((decide ((0 : Int) < nd.kids)) && (!decide (nd.kind = (6 : Int)))) && (!decide (nd.kind = (7 : Int))))) = true := by
      rw [decide_eq_true (show nd.kind < 1 by omega)]; rfl
     have := pB_both (hv.2 nd h2)
     have hj := this.1
     rw [h6] at hj
     unfold zak_s at hj
     rw [hc, cond_true] at hj
     cases hj
    rw [if_neg k6]
    obtain ⟨kk, hkk⟩ := Int.eq_ofNat_of_zero_le h7
    rw [hkk, show ((kk : Int)).toNat = kk from rfl]
    rw [hkk, show ((kk : Int)).toNat = kk from rfl] at h11
    have hle2 := kidsS_le (oneS_le v d' (decide (nd.kind = 7))) _ _ _ _ (by omega) h11
    have hkl := kids_len hv (oneS_le v d' (decide (nd.kind = 7))) (fun a e => prOne_len hv d' _ a e) _ _ true _ _ (by omega) h11
    have hp0 : ∀ (c0 c1 : Int) (sg : ByteArray), bAt sg 0 = c0 → bAt sg 1 = c1 → sg.size = 2 → zam_p0 (zam_n n) ((a : Int) + 1) sg ad v buf nd.kind (kk : Int) = some ((e : Int), true, buf ++ c0 :: (prKids v (oneS v d' (decide (nd.kind = 7))) (prOne v d') (decide (nd.kind = 7)) kk (a + 1) true ++ [c1])) := by
     intro c0 c1 sg e0 e1 hz
     unfold zam_p0
     rw [gd_pos (by omega), e0, p_wb _ _ _ (by omega), obS]
     have := sp_p1 hv nd.kind (oneS_le v d' (decide (nd.kind = 7))) (fun a e => prOne_len hv d' _ a e) (self := zam_n n) (fun a e ho ad buf hb => ih _ a e n ho (by omega) ad buf hb) kk (by omega) kk 0 (a + 1) [] e (buf ++ [c0]) (by omega) (by omega) h11 (by simp only [List.length_append, List.length_singleton]; omega)
     rw [show ((a + 1 : Nat) : Int) = (a : Int) + 1 by omega, show ((0 : Nat) : Int) = 0 from rfl, decide_eq_true rfl] at this
     dsimp only
     rw [this, obS, gd_pos (by omega), e1, p_wb _ _ _ (by simp only [List.length_append, List.length_singleton]; omega), obS]
     simp only [List.append_assoc, List.cons_append, List.nil_append]
    by_cases k7 : nd.kind = 7
    ·rw [decide_eq_true k7] at hp0 ⊢
     rw [cond_true, hp0 123 125 _ (by decide) (by decide) rfl, obS, if_pos k7, if_pos k7]
    ·rw [decide_eq_false k7] at hp0 ⊢
     rw [cond_false, hp0 91 93 _ (by decide) (by decide) rfl, obS, if_neg k7, if_neg k7]

/-! ### the document -/
theorem rp_p0 {v : List Eng.Node} (hv : OkL v) {self : List Eng.Node → Int → Option ByteArray} {one : Nat → Option Nat} {pr : Nat → List Int} (kd : Int) (hone : ∀ a e, one a = some e → a < e ∧ e ≤ v.length) (htr : ∀ a e, one a = some e → Tree v a e)
  (hpr : ∀ a e, one a = some e → (pr a).length + 18000004 ≤ 40000000 * (e - a))
  (hs : ∀ (a e : Nat), one a = some e → ∃ t, self v (a : Int) = some t ∧ bytesL t = pr a) (L : List Nat) (hL : L.length ≤ 4000000) :
  ∀ (k a : Nat) (names : List ByteArray) (e : Nat) (r pre : List Nat) (s : ByteArray), L = pre ++ r → placesT v k a r e → a ≤ v.length → kidsS v one (decide (kd = 7)) k a names = some e → s.size + 40000000 * (e - a) + 1 ≤ 120000000000000 →
   ∃ t, zbh_p0 self s (pre.length : Int) v kd (upN L) = some t ∧ bytesL t = bytesL s ++ prKids v one pr (decide (kd = 7)) k a (decide (pre.length = 0))
 | 0, a, names, e, r, pre, s, hr, hp, ha, hk, hb => by
  obtain ⟨rfl, rfl⟩ := hp
  refine ⟨s, ?_, by show _ = _ ++ []; rw [List.append_nil]⟩
  unfold zbh_p0
  refine whileO_inr ?_
  unfold zbh_p0_step
  have : (upN L).length = pre.length := by rw [upN_len, hr]; simp
  dsimp only
  rw [decide_eq_false (by omega), cond_false]
 | k + 1, a, names, e, r, pre, s, hr, hp, ha, hk, hb => by
  obtain ⟨b, r', rfl, ht, hp'⟩ := hp
  unfold kidsS at hk
  cases ho : one a with
  | none => rw [ho] at hk; cases hk
  | some b' =>
   have hbb : b' = b := (htr a b' ho).det ht
   subst hbb
   rw [ho] at hk
   dsimp only at hk
   split at hk
   ·cases hk
   ·have hle := hone a b' ho
    have hlen := hv.1
    have hle2 := kidsS_le hone k b' _ e hle.2 hk
    have hpl := hpr a b' ho
    have hkl := keyL_len hv (decide (kd = 7)) (a := a) (by omega)
    obtain ⟨n, hn, hmem, hget⟩ := nd_some (show a < v.length by omega)
    have hUl : (upN L).length = pre.length + (r'.length + 1) := by rw [upN_len, hr]; simp
    have hUz := upN_len L
    have hUg : (upN L).getD pre.length (ET.dft .i64) = (a : Int) := by
     rw [hr]
     unfold upN
     rw [List.getD_eq_getElem?_getD, List.getElem?_map]
     simp
    obtain ⟨t1, ht1, ht2⟩ := hs a b' ho
    have hz1 : t1.size = (pr a).length := by rw [← bytesL_size, ht2]
    -- the value itself
    have hp2 : ∀ s : ByteArray, s.size + t1.size ≤ 9223372036854775807 → zbh_p2 self s (pre.length : Int) v (upN L) = some (s ++ t1) := fun s hsz => by
     unfold zbh_p2
     rw [gd_pos (by omega), gd_pos (by omega), Int.toNat_natCast, hUg, ht1, obS]
     exact gd_pos hsz _
    have hp1 : ∀ s : ByteArray, s.size + 18000003 + t1.size ≤ 9223372036854775807 → ∃ t, zbh_p1 self s (pre.length : Int) v kd (upN L) = some t ∧ bytesL t = bytesL s ++ (keyL v (decide (kd = 7)) a ++ pr a) := fun s hsz => by
     unfold zbh_p1 keyL keyAt
     rw [hget]
     by_cases h7 : kd = 7
     ·obtain ⟨q, hq1, hq2⟩ := r_Quoted n.key (hv.2 n hmem).key
      have hqz : q.size ≤ 18000002 := by
       rw [← bytesL_size, hq2]
       have := quoL_len n.key
       have := (hv.2 n hmem).key
       omega
      refine ⟨s ++ q ++ (⟨#[58]⟩ : ByteArray) ++ t1, ?_, ?_⟩
      ·have z1 := ba_size_app s q
       have z2 := ba_size_app (s ++ q) (⟨#[58]⟩ : ByteArray)
       have z3 : (⟨#[58]⟩ : ByteArray).size = 1 := rfl
       rw [decide_eq_true h7, cond_true, gd_pos (by omega), gd_pos (by omega), Int.toNat_natCast, hUg, gd_pos (by omega), gd_pos (by omega), gd_pos (by omega), Int.toNat_natCast, hget, hq1, obS, gd_pos (by omega), gd_pos (by omega), hp2 _ (by omega)]
       rfl
      ·rw [bytesL_app, bytesL_app, bytesL_app, hq2, ht2, decide_eq_true h7, if_pos rfl, show bytesL (⟨#[58]⟩ : ByteArray) = [58] from rfl]
       simp only [List.append_assoc]
     ·refine ⟨s ++ t1, ?_, ?_⟩
      ·rw [decide_eq_false h7, cond_false, hp2 _ (by omega)]
       rfl
      ·rw [bytesL_app, ht2, decide_eq_false h7, if_neg (by decide), List.nil_append]
    have hst : ∃ t, zbh_p0_step self s (pre.length : Int) v kd (upN L) = some (.inl (t, ((pre.length + 1 : Nat) : Int))) ∧ bytesL t = bytesL s ++ (commaL (decide (pre.length = 0)) ++ (keyL v (decide (kd = 7)) a ++ pr a)) := by
     unfold zbh_p0_step
     rw [decide_eq_true (by omega), cond_true]
     by_cases hi : pre.length = 0
     ·obtain ⟨t, ht3, ht4⟩ := hp1 s (by omega)
      refine ⟨t, ?_, ?_⟩
      ·rw [decide_eq_false (by omega), cond_false, ht3, obS]
       exact gd_pos (by unfold InI64; omega) _
      ·rw [ht4, decide_eq_true hi]
       rfl
     ·have z2 := ba_size_app s (⟨#[44]⟩ : ByteArray)
      have z3 : (⟨#[44]⟩ : ByteArray).size = 1 := rfl
      obtain ⟨t, ht3, ht4⟩ := hp1 (s ++ (⟨#[44]⟩ : ByteArray)) (by omega)
      refine ⟨t, ?_, ?_⟩
      ·rw [decide_eq_true (by omega), cond_true, gd_pos (by omega), ht3, obS]
       exact gd_pos (by unfold InI64; omega) _
      ·rw [ht4, decide_eq_false hi, bytesL_app, show bytesL (⟨#[44]⟩ : ByteArray) = [44] from rfl]
       simp only [List.append_assoc]
       rfl
    obtain ⟨t, hst, ht4⟩ := hst
    have hcm : (commaL (decide (pre.length = 0))).length ≤ 1 := by unfold commaL; split <;> simp
    have htz : t.size = s.size + ((commaL (decide (pre.length = 0))).length + ((keyL v (decide (kd = 7)) a).length + (pr a).length)) := by
     rw [← bytesL_size, ht4]
     simp only [List.length_append, bytesL_size]
    obtain ⟨t', hg1, hg2⟩ := rp_p0 hv kd hone htr hpr hs L hL k b' _ e r' (pre ++ [a]) t (by rw [hr]; simp) hp' hle.2 hk (by omega)
    refine ⟨t', ?_, ?_⟩
    ·rw [← hg1, show (pre ++ [a]).length = pre.length + 1 by simp]
     unfold zbh_p0
     exact whileO_inl hst
    ·rw [hg2, ht4, show (pre ++ [a]).length = pre.length + 1 by simp, decide_eq_false (show ¬ (pre.length + 1 = 0) by omega)]
     show _ = bytesL s ++ (commaL _ ++ (keyL v _ a ++ (pr a ++ prKids v one pr _ k ((one a).getD 0) false)))
     rw [ho, Option.getD_some]
     simp only [List.append_assoc]
theorem rp_all {v : List Eng.Node} (hv : OkL v) : ∀ (d : Nat) (obj : Bool) (a e n : Nat), oneS v d obj a = some e → d < n → ∃ t, zbh_n n v (a : Int) = some t ∧ bytesL t = prOne v d a := by
 have hlen := hv.1
 have scal : ∀ (nd : Eng.Node) (a e : Nat) (self : List Eng.Node → Int → Option ByteArray), nd ∈ v → v.getD a (ET.dft .node) = nd → a < v.length → pB nd = true → nd.kind < 6 → ∃ t, zbh_t self v (a : Int) = some t ∧ bytesL t = scalL nd := by
  intro nd a e self h2 h4 ha h6 hk
  have htx := (hv.2 nd h2).text
  unfold zbh_t scalL
  rw [gd_pos (by omega), gd_pos (by omega), Int.toNat_natCast, h4]
  by_cases k1 : nd.kind = 1
  ·rw [decide_eq_true k1, cond_true, if_pos k1]; exact ⟨_, rfl, by decide⟩
  rw [decide_eq_false k1, cond_false, if_neg k1]
  by_cases k2 : nd.kind = 2
  ·rw [decide_eq_true k2, cond_true, if_pos k2]; exact ⟨_, rfl, by decide⟩
  rw [decide_eq_false k2, cond_false, if_neg k2]
  by_cases k3 : nd.kind = 3
  ·rw [decide_eq_true k3, cond_true, if_pos k3]; exact ⟨_, rfl, by decide⟩
  rw [decide_eq_false k3, cond_false, if_neg k3]
  by_cases k4 : nd.kind = 4
  ·rw [decide_eq_true k4, cond_true, if_pos k4]; exact ⟨_, rfl, rfl⟩
  rw [decide_eq_false k4, cond_false, if_neg k4]
  by_cases k5 : nd.kind = 5
  ·obtain ⟨t, h1, h2⟩ := r_Quoted nd.text htx
   rw [decide_eq_true k5, cond_true, h1]; exact ⟨t, rfl, h2⟩
  exfalso
  have hc : ((((decide (nd.kind < (1 : Int))) || (decide ((7 : Int) < nd.kind))) || (decide (nd.kids < (0 : Int)))) || (((decide ((0 : Int) < nd.kids)) && (!decide (nd.kind = (6 : Int)))) && (!decide (nd.kind = (7 : Int))))) = true := by
   rw [decide_eq_true (show nd.kind < 1 by omega)]; rfl
  have hj := (pB_both (hv.2 nd h2)).1
  rw [h6] at hj
  unfold zak_s at hj
  rw [hc, cond_true] at hj
  cases hj
 intro d
 induction d with
 | zero =>
  intro obj a e n h hn
  obtain ⟨nd, h1, h2, h3, h4, h5, h6, h7, h8, h9, h10⟩ := oneS_ok hv h
  rcases h10 with ⟨_, h11, rfl⟩ | ⟨d', h, _⟩
  ·cases n with
   | zero => omega
   | succ n =>
    unfold prOne
    rw [h4]
    exact scal nd a (a + 1) _ h2 h4 h3 h6 h11
  ·cases h
 | succ d ih =>
  intro obj a e n h hn
  have hle := oneS_le v (d + 1) obj a e h
  obtain ⟨nd, h1, h2, h3, h4, h5, h6, h7, h8, h9, h10⟩ := oneS_ok hv h
  rcases h10 with ⟨h, _⟩ | ⟨d', h, h11⟩
  ·cases h
  ·have : d' = d := by omega
   subst this
   cases n with
   | zero => omega
   | succ n =>
    by_cases k6 : nd.kind < 6
    ·unfold prOne
     rw [h4, if_pos k6]
     exact scal nd a e _ h2 h4 h3 h6 k6
    ·have hki := (hv.2 nd h2).kids
     unfold InI64 at hki
     have htrs := kidsS_tree (fun a e => oneS_tree hv d' (decide (nd.kind = 7)) a e) _ _ _ _ (by omega) h11
     obtain ⟨L, hL⟩ := htrs.places
     have hLl : L.length = nd.kids.toNat := hL.len
     have hkle := htrs.le
     have hkids := r_kids hlen h1 h7 htrs hL
     have hkl := kids_len hv (oneS_le v d' (decide (nd.kind = 7))) (fun a e => prOne_len hv d' _ a e) _ _ true _ _ (by omega) h11
     obtain ⟨t, ht1, ht2⟩ := rp_p0 hv nd.kind (oneS_le v d' (decide (nd.kind = 7))) (oneS_tree hv d' (decide (nd.kind = 7))) (fun a e => prOne_len hv d' _ a e) (self := zbh_n n) (fun a e ho => ih _ a e n ho (by omega)) L (by omega) nd.kids.toNat (a + 1) [] e L [] (⟨#[]⟩ : ByteArray) rfl hL (by omega) h11 (by show 0 + _ + 1 ≤ _; omega)
     rw [show bytesL (⟨#[]⟩ : ByteArray) = [] from rfl, List.nil_append] at ht2
     rw [show (([] : List Nat).length : Int) = 0 from rfl] at ht1
     have htz : t.size ≤ 100000000000000 := by rw [← bytesL_size, ht2]; show (prKids _ _ _ _ _ _ true).length ≤ _; omega
     show ∃ t, zbh_t (zbh_n n) v a = some t ∧ _
     unfold zbh_t prOne
     rw [gd_pos (by omega), gd_pos (by omega), Int.toNat_natCast, h4, if_neg k6]
     rw [decide_eq_false (by omega), cond_false, decide_eq_false (by omega), cond_false, decide_eq_false (by omega), cond_false, decide_eq_false (by omega), cond_false, decide_eq_false (by omega), cond_false, hkids, obS, ht1, obS]
     by_cases k7 : nd.kind = 7
     ·have z1 := ba_size_app (⟨#[123]⟩ : ByteArray) t
      have z2 : (⟨#[123]⟩ : ByteArray).size = 1 := rfl
      have z3 : (⟨#[125]⟩ : ByteArray).size = 1 := rfl
      refine ⟨(⟨#[123]⟩ : ByteArray) ++ t ++ (⟨#[125]⟩ : ByteArray), ?_, ?_⟩
      ·rw [decide_eq_true k7, cond_true, gd_pos (by omega), gd_pos (by omega)]
      ·rw [bytesL_app, bytesL_app, ht2, if_pos k7, if_pos k7]
       rfl
     ·have z1 := ba_size_app (⟨#[91]⟩ : ByteArray) t
      have z2 : (⟨#[91]⟩ : ByteArray).size = 1 := rfl
      have z3 : (⟨#[93]⟩ : ByteArray).size = 1 := rfl
      refine ⟨(⟨#[91]⟩ : ByteArray) ++ t ++ (⟨#[93]⟩ : ByteArray), ?_, ?_⟩
      ·rw [decide_eq_false k7, cond_false, gd_pos (by omega), gd_pos (by omega)]
      ·rw [bytesL_app, bytesL_app, ht2, if_neg k7, if_neg k7]
       rfl
/-- What is written has a byte at least. -/
theorem prOne_some {v : List Eng.Node} (hv : OkL v) {d : Nat} {obj : Bool} {a e : Nat} (h : oneS v d obj a = some e) : prOne v d a ≠ [] := by
 obtain ⟨nd, h1, h2, h3, h4, h5, h6, h7, h8, h9, h10⟩ := oneS_ok hv h
 have hs : nd.kind < 6 → scalL nd ≠ [] := by
  intro hk
  unfold scalL
  split
  ·simp
  split
  ·simp
  split
  ·simp
  split
  ·rename_i k4
   intro he
   have hz : nd.text.size = 0 := by rw [← bytesL_size, he]; rfl
   have htx : nd.text = ⟨#[]⟩ := eq_none.2 hz
   have hj := (pB_both (hv.2 nd h2)).1
   rw [h6] at hj
   unfold zak_s at hj
   obtain ⟨w, hw, _⟩ := whole_eq nd.text (hv.2 nd h2).text
   rw [hw, p_Valid nd.text (hv.2 nd h2).text, htx] at hj
   have hro : readOk (⟨#[]⟩ : ByteArray) = false := by decide +kernel
   rw [hro, decide_eq_true k4] at hj
   simp only [obS, cond_true, Bool.false_and] at hj
   simp at hj
  ·simp [quoL]
 cases d with
 | zero =>
  unfold prOne
  rw [h4]
  rcases h10 with ⟨_, h11, _⟩ | ⟨d', h, _⟩
  ·exact hs h11
  ·cases h
 | succ d =>
  unfold prOne
  rw [h4]
  split
  ·rename_i hk
   exact hs hk
  ·simp
theorem prOne_range (v : List Eng.Node) : ∀ (d a : Nat), ∀ x ∈ prOne v d a, 0 ≤ x ∧ x < 256 := by
 intro d
 induction d with
 | zero =>
  intro a
  exact scalL_range _
 | succ d ih =>
  intro a
  have kids : ∀ (one : Nat → Option Nat) (obj : Bool) (k b : Nat) (first : Bool), ∀ x ∈ prKids v one (prOne v d) obj k b first, 0 ≤ x ∧ x < 256 := by
   intro one obj k
   induction k with
   | zero => intro b first x hx; cases hx
   | succ k ihk =>
    intro b first x hx
    unfold prKids at hx
    simp only [List.mem_append] at hx
    rcases hx with hx | hx | hx | hx
    ·unfold commaL at hx
     split at hx
     ·cases hx
     ·simp at hx; omega
    ·unfold keyL at hx
     split at hx
     ·simp only [List.mem_append, List.mem_singleton] at hx
      rcases hx with hx | hx
      ·exact quoL_range _ x hx
      ·omega
     ·cases hx
    ·exact ih b x hx
    ·exact ihk _ _ x hx
  unfold prOne
  split
  ·exact scalL_range _
  ·intro x hx
   simp only [List.mem_cons, List.mem_append, List.not_mem_nil, or_false] at hx
   rcases hx with rfl | hx | rfl
   ·split <;> omega
   ·exact kids _ _ _ _ _ x hx
   ·split <;> omega
/-- The program and the document write the same text. -/
theorem print_both {v : List Eng.Node} (hv : OkL v) : ∃ r, zai_s v = some r ∧ zaz_s v = some r := by
 have hlen := hv.1
 unfold zai_s zaz_s
 rw [prog_Shaped hv, ref_Shaped hv, obS, obS]
 by_cases hsh : oneS v 32 false 0 = some v.length
 ·rw [decide_eq_true hsh, Bool.not_true, cond_false, cond_false]
  have hsp : zam_s (⟨false, []⟩ : strings_Builder) v 0 = some (⟨true, [] ++ prOne v 32 0⟩, (v.length : Int)) := evt_eq (N := 33) fun n hn => by
   have := sp_all hv 32 false 0 v.length n hsh (by omega) false [] (by show 0 + _ ≤ _; omega)
   rwa [show ((0 : Nat) : Int) = 0 from rfl] at this
  have hpl := prOne_len hv 32 false 0 _ hsh
  obtain ⟨t, ht1, ht2⟩ := rp_all hv 32 false 0 v.length 33 hsh (by omega)
  have hrp : zbh_s v 0 = some t := evt_eq (N := 33) fun n hn => by
   obtain ⟨t', h1, h2⟩ := rp_all hv 32 false 0 v.length n hsh (by omega)
   rw [show ((0 : Nat) : Int) = 0 from rfl] at h1
   rw [h1]
   have : t' = t := by rw [← bytesI_of t', ← bytesI_of t, h2, ht2]
   rw [this]
  rw [hsp, hrp, obS, obS, List.nil_append]
  unfold zbl_s
  rw [obS]
  dsimp only
  have hz : (prOne v 32 0).length = t.size := by rw [← ht2, bytesL_size]
  rw [hz]
  by_cases hbig : (262144 : Int) < (t.size : Int)
  ·rw [decide_eq_true hbig, cond_true, cond_true]
   exact ⟨_, rfl, rfl⟩
  ·rw [decide_eq_false hbig, cond_false, cond_false]
   refine ⟨(t, 0), ?_, rfl⟩
   have hne := prOne_some hv hsh
   have hpos : 0 < (prOne v 32 0).length := List.length_pos_iff.2 hne
   have : zbm_s ⟨true, prOne v 32 0⟩ = some (⟨true, []⟩, bytesI (prOne v 32 0)) := by
    unfold zbm_s
    refine (gd_pos hpos _).trans ?_
    exact (gd_pos ⟨rfl, hpos, prOne_range v 32 0⟩ _).trans rfl
   rw [this, obS, ← ht2, bytesI_of]
 ·rw [decide_eq_false hsh, Bool.not_false, cond_true, cond_true]
  exact ⟨_, rfl, rfl⟩
end Go.Proofs.YtekkjbomadoplaaDoor
