/-
 Is a list of nodes a well shaped value? The program (its own pile of what is open) and the document (going down) say the same. No program.
-/
import Derived.Test.YtekkjbomadoplaaDoorPUtf
import Derived.Test.YtekkjbomadoplaaDoorPWhole
import Derived.Test.YtekkjbomadoplaaDoorJS
namespace Go.Proofs.YtekkjbomadoplaaDoor
open Go.Eng
set_option linter.unusedVariables false
set_option linter.unusedSimpArgs false

instance memDec (s : ByteArray) : (l : List ByteArray) → Decidable (s ∈ l)
 | [] => isFalse (by simp)
 | x :: r => if h : s = x then isTrue (by simp [h]) else match memDec s r with
  | isTrue h2 => isTrue (List.mem_cons_of_mem _ h2)
  | isFalse h2 => isFalse (by simp [h, h2])
/-- A node that may stand there, its children apart. -/
theorem plain_both (n : Eng.Node) (hn : OkN n) : ∃ b, zak_s n = some b ∧ zbg_s n = some b ∧ (b = true → 0 ≤ n.kids ∧ (0 < n.kids → 6 ≤ n.kind) ∧ n.kind ≤ 7) := by
 obtain ⟨w, hw1, hw2⟩ := whole_eq n.text hn.text
 have hv1 := p_Valid n.text hn.text
 have hv2 := r_Valid n.text hn.text
 have hu := p_utf n.text hn.text
 have hu2 : utf8_ValidString_s n.text = some (Lib.validD n.text.data.toList) := gd_pos (by have := hn.text; omega) _
 unfold zak_s zbg_s
 have hc : ((((decide (n.kind < (1 : Int))) || (decide ((7 : Int) < n.kind))) || (decide (n.kids < (0 : Int)))) || (((decide ((0 : Int) < n.kids)) && (!decide (n.kind = (6 : Int)))) && (!decide (n.kind = (7 : Int))))) =
   ((((decide (n.kind < (1 : Int))) || (decide ((7 : Int) < n.kind))) || (decide (n.kids < (0 : Int)))) || ((decide ((0 : Int) < n.kids)) && (decide (n.kind < (6 : Int))))) := by
  rw [Bool.eq_iff_iff]
  simp only [Bool.or_eq_true, Bool.and_eq_true, decide_eq_true_eq, Bool.not_eq_true', decide_eq_false_iff_not]
  omega
 rw [hc, hw1, hw2, hv1, hv2, hu, hu2]
 simp only [obS]
 cases hd : ((((decide (n.kind < (1 : Int))) || (decide ((7 : Int) < n.kind))) || (decide (n.kids < (0 : Int)))) || ((decide ((0 : Int) < n.kids)) && (decide (n.kind < (6 : Int))))) with
 | true => exact ⟨false, rfl, rfl, fun h => by cases h⟩
 | false =>
  have hk : 0 ≤ n.kids ∧ (0 < n.kids → 6 ≤ n.kind) ∧ n.kind ≤ 7 := by
   simp only [Bool.or_eq_false_iff, Bool.and_eq_false_iff, decide_eq_false_iff_not] at hd
   omega
  simp only [cond_false]
  cases decide (n.kind = 4) with
  | true =>
   refine ⟨_, rfl, ?_, fun _ => hk⟩
   simp only [cond_true]
   rw [show (w.2 == n.whole) = (n.whole == w.2) from Bool.beq_comm, show decide (w.1 = n.int) = decide (n.int = w.1) from decide_eq_decide.2 eq_comm]
  | false =>
   simp only [cond_false]
   cases (n.whole || !decide (n.int = 0)) with
   | true => exact ⟨_, rfl, rfl, fun _ => hk⟩
   | false =>
    simp only [cond_false]
    cases decide (n.kind = 5) <;> exact ⟨_, rfl, rfl, fun _ => hk⟩
noncomputable def pB (n : Eng.Node) : Bool := (zak_s n).getD false
theorem pB_both {n : Eng.Node} (hn : OkN n) : zak_s n = some (pB n) ∧ zbg_s n = some (pB n) ∧ (pB n = true → 0 ≤ n.kids ∧ (0 < n.kids → 6 ≤ n.kind) ∧ n.kind ≤ 7) := by
 obtain ⟨b, h1, h2, h3⟩ := plain_both n hn
 have : pB n = b := by unfold pB; rw [h1]; rfl
 rw [this]
 exact ⟨h1, h2, h3⟩
noncomputable def okB (obj : Bool) (n : Eng.Node) : Bool := pB n && Lib.validD n.key.data.toList && (obj || decide (n.key = (⟨#[]⟩ : ByteArray)))
def keyAt (v : List Eng.Node) (a : Nat) : ByteArray := (v.getD a (ET.dft .node)).key

/-! ### going down -/
noncomputable def kidsS (v : List Eng.Node) (one : Nat → Option Nat) (obj : Bool) : Nat → Nat → List ByteArray → Option Nat
 | 0, a, _ => some a
 | k + 1, a, names =>
  match one a with
  | none => none
  | some e => if obj = true ∧ keyAt v a ∈ names then none else kidsS v one obj k e (names ++ [keyAt v a])
noncomputable def oneS (v : List Eng.Node) : Nat → Bool → Nat → Option Nat
 | 0, obj, a =>
  match v[a]? with
  | none => none
  | some n => if okB obj n = true ∧ n.kind < 6 then some (a + 1) else none
 | d + 1, obj, a =>
  match v[a]? with
  | none => none
  | some n => if okB obj n = true then kidsS v (oneS v d (decide (n.kind = 7))) (decide (n.kind = 7)) n.kids.toNat (a + 1) [] else none
theorem kidsS_le {v : List Eng.Node} {one : Nat → Option Nat} {obj : Bool} (h : ∀ a e, one a = some e → a < e ∧ e ≤ v.length) : ∀ (k a : Nat) (names : List ByteArray) (e : Nat), a ≤ v.length → kidsS v one obj k a names = some e → a + k ≤ e ∧ e ≤ v.length
 | 0, a, names, e, ha, hk => by
  cases hk
  exact ⟨by omega, ha⟩
 | k + 1, a, names, e, ha, hk => by
  unfold kidsS at hk
  cases ho : one a with
  | none => rw [ho] at hk; cases hk
  | some b =>
   rw [ho] at hk
   dsimp only at hk
   split at hk
   ·cases hk
   ·have hb := h a b ho
    have := kidsS_le h k b _ e hb.2 hk
    omega
theorem oneS_le (v : List Eng.Node) : ∀ (d : Nat) (obj : Bool) (a e : Nat), oneS v d obj a = some e → a < e ∧ e ≤ v.length
 | 0, obj, a, e, h => by
  unfold oneS at h
  cases hv : v[a]? with
  | none => rw [hv] at h; cases h
  | some n =>
   rw [hv] at h
   dsimp only at h
   have := (List.getElem?_eq_some_iff.1 hv).1
   split at h
   ·cases h; omega
   ·cases h
 | d + 1, obj, a, e, h => by
  unfold oneS at h
  cases hv : v[a]? with
  | none => rw [hv] at h; cases h
  | some n =>
   rw [hv] at h
   dsimp only at h
   have hlt := (List.getElem?_eq_some_iff.1 hv).1
   split at h
   ·have := kidsS_le (fun a e => oneS_le v d _ a e) _ _ _ _ (by omega) h
    omega
   ·cases h
def encE (o : Option Nat) : Int := match o with | none => -1 | some e => (e : Int)

/-! ### the document -/
theorem p_among (s : ByteArray) (l : List ByteArray) (hl : l.length ≤ 2000000) : zbc_s l s = some (decide (s ∈ l)) := by
 have key : ∀ (j i : Nat), i + j = l.length → zbc_p0 s (i : Int) l = some (if s ∈ l.drop i then .inl true else .inr ()) := by
  intro j
  induction j with
  | zero =>
   intro i hi
   rw [List.drop_eq_nil_of_le (by omega), if_neg (by simp)]
   unfold zbc_p0
   refine whileO_inr ?_
   unfold zbc_p0_step
   rw [decide_eq_false (by omega), cond_false]
  | succ j ih =>
   intro i hi
   have hlt : i < l.length := by omega
   have hd : l.drop i = l[i] :: l.drop (i + 1) := List.drop_eq_getElem_cons hlt
   have hg : l.getD i (⟨#[]⟩ : ByteArray) = l[i] := by rw [List.getD_eq_getElem?_getD, List.getElem?_eq_getElem hlt]; rfl
   have hst : zbc_p0_step s (i : Int) l = if l[i] = s then some (.inr (.inl true)) else some (.inl ((i + 1 : Nat) : Int)) := by
    unfold zbc_p0_step
    rw [decide_eq_true (by omega), cond_true, gd_pos (by omega), gd_pos (by omega)]
    simp only [Int.toNat_natCast]
    have hg' : l.getD i (ET.dft .str) = l[i] := hg
    simp only [hg']
    by_cases h : l[i] = s
    ·rw [if_pos h, decide_eq_true h, cond_true]
    ·rw [if_neg h, decide_eq_false h, cond_false]
     exact gd_pos (by unfold InI64; omega) _
   unfold zbc_p0
   by_cases h : l[i] = s
   ·rw [if_pos h] at hst
    rw [whileO_inr hst, if_pos (by rw [hd, h]; exact List.mem_cons_self)]
   ·rw [if_neg h] at hst
    rw [whileO_inl hst]
    have := ih (i + 1) (by omega)
    unfold zbc_p0 at this
    rw [this]
    congr 1
    have : (s ∈ l.drop i) = (s ∈ l.drop (i + 1)) := by
     rw [hd, List.mem_cons]
     exact propext ⟨fun h' => h'.resolve_left (fun e => h e.symm), .inr⟩
    simp only [this]
 have := key l.length 0 (by omega)
 rw [List.drop_zero, show ((0 : Nat) : Int) = 0 from rfl] at this
 unfold zbc_s
 rw [this, obS]
 by_cases h : s ∈ l
 ·rw [if_pos h, decide_eq_true h]; rfl
 ·rw [if_neg h, decide_eq_false h]; rfl
theorem take_kids {v : List Eng.Node} (hv : OkL v) {open_ : Int} (ho : 0 ≤ open_ ∧ open_ ≤ 32) (kd : Int) {one : Nat → Option Nat} (hone : ∀ a e, one a = some e → a < e ∧ e ≤ v.length)
  {self : List Eng.Node → Int → Bool → Int → Option Int} (hs : ∀ b : Nat, self v (b : Int) (decide (kd = 7)) (open_ + 1) = some (encE (one b))) (kids : Nat) (hk : (kids : Int) ≤ 9223372036854775807) :
  ∀ (j i next : Nat) (names : List ByteArray), i + j = kids → next ≤ v.length → names.length ≤ next → zbj_p0 self open_ (next : Int) (i : Int) v kd (kids : Int) names = some (match kidsS v one (decide (kd = 7)) j next names with | none => .inl (-1) | some e => .inr (e : Int))
 | 0, i, next, names, h1, h2, h3 => by
  unfold kidsS
  unfold zbj_p0
  refine whileO_inr ?_
  unfold zbj_p0_step
  dsimp only
  rw [decide_eq_false (by omega), cond_false]
 | j + 1, i, next, names, h1, h2, h3 => by
  have hlen := hv.1
  have r1 := hs next
  unfold kidsS
  cases hr : one next with
  | none =>
   rw [hr] at r1
   unfold zbj_p0
   refine whileO_inr ?_
   unfold zbj_p0_step
   dsimp only
   rw [decide_eq_true (by omega), cond_true, gd_pos (by unfold InI64; omega), r1, obS]
   have : decide (encE none < 0) = true := rfl
   rw [this]
   rw [gd_pos (fun _ h => by cases h), gd_pos (fun _ h => by cases h), gd_pos (fun _ h => by cases h), cond_true]
  | some e =>
   rw [hr] at r1
   have he := hone next e hr
   have hne : decide (encE (some e) < 0) = false := decide_eq_false (by show ¬ ((e : Int) < 0); omega)
   have hg : ∀ {R : Type} (k : Option R), gd (names.length + ([keyAt v next] : List ByteArray).length ≤ 9223372036854775807 ∧ (names.length + ([keyAt v next] : List ByteArray).length) * 16 ≤ 140737488355328) k = k := fun k => gd_pos (by simp only [List.length_singleton]; omega) k
   have round : zbj_p0_step self open_ (next : Int) (i : Int) v kd (kids : Int) names = if decide (kd = 7) = true ∧ keyAt v next ∈ names then some (.inr (.inl (-1))) else some (.inl ((e : Int), ((i + 1 : Nat) : Int), names ++ [keyAt v next])) := by
    unfold zbj_p0_step
    rw [decide_eq_true (show (i : Int) < (kids : Int) by omega), cond_true, gd_pos (by unfold InI64; omega), r1, obS, hne, cond_false]
    rw [gd_pos (fun _ _ => by omega), gd_pos (fun _ _ => by omega), gd_pos (fun _ _ => by omega)]
    simp only [Int.toNat_natCast]
    rw [show (v.getD next (ET.dft .node)).key = keyAt v next from rfl, p_among _ _ (by omega), obS]
    by_cases h7 : kd = 7
    ·rw [decide_eq_true h7, cond_true]
     by_cases hm : keyAt v next ∈ names
     ·rw [decide_eq_true hm, cond_true, if_pos ⟨rfl, hm⟩]
     ·rw [decide_eq_false hm, cond_false, if_neg (fun h => hm h.2), gd_pos (by omega), gd_pos (by omega), gd_pos (by omega), hg, gd_pos (by unfold InI64; omega)]
      rfl
    ·rw [decide_eq_false h7, cond_false, if_neg (fun h => by cases h.1), gd_pos (by omega), gd_pos (by omega), gd_pos (by omega), hg, gd_pos (by unfold InI64; omega)]
     rfl
   dsimp only
   by_cases hc : decide (kd = 7) = true ∧ keyAt v next ∈ names
   ·rw [if_pos hc] at round ⊢
    unfold zbj_p0
    exact whileO_inr round
   ·rw [if_neg hc] at round ⊢
    have ih := take_kids hv ho kd hone hs kids hk j (i + 1) e (names ++ [keyAt v next]) (by omega) he.2 (by simp only [List.length_append, List.length_singleton]; omega)
    rw [← ih]
    unfold zbj_p0
    exact whileO_inl round
theorem take_is {v : List Eng.Node} (hv : OkL v) : ∀ (d : Nat) (obj : Bool) (a n : Nat), d ≤ 32 → d < n → zbj_n n v (a : Int) obj (32 - (d : Int)) = some (encE (oneS v d obj a)) := by
 intro d
 induction d with
 | zero =>
  intro obj a n hd hn
  cases n with
  | zero => omega
  | succ n =>
   show zbj_t (zbj_n n) v a obj _ = _
   unfold zbj_t oneS
   have hlen := hv.1
   by_cases ha : a < v.length
   ·obtain ⟨nd, hnd, hmem, hget⟩ := nd_some ha
    obtain ⟨_, hp, hp2⟩ := pB_both (hv.2 nd hmem)
    have hu := p_utf nd.key (hv.2 nd hmem).key
    rw [decide_eq_false (by omega), cond_false, gd_pos (by omega), gd_pos (by omega), Int.toNat_natCast, hget, hp, obS, hu, obS, hnd]
    dsimp only
    have hb : (((!pB nd) || (!Lib.validD nd.key.data.toList)) || ((!obj) && (!decide (nd.key = (⟨#[]⟩ : ByteArray))))) = !okB obj nd := by
     unfold okB
     cases pB nd <;> cases Lib.validD nd.key.data.toList <;> cases obj <;> cases decide (nd.key = (⟨#[]⟩ : ByteArray)) <;> rfl
    rw [hb, decide_eq_true (show 32 - ((0 : Nat) : Int) = 32 by omega), Bool.and_true]
    cases ho : okB obj nd with
    | false => rw [if_neg (fun h => by cases h.1)]; rfl
    | true =>
     by_cases hk : nd.kind < 6
     ·rw [if_pos ⟨rfl, hk⟩, decide_eq_false (by omega)]
      have hpb : pB nd = true := by unfold okB at ho; simp only [Bool.and_eq_true] at ho; exact ho.1.1
      have hz := hp2 hpb
      have hk0 : nd.kids = 0 := by omega
      simp only [Bool.not_true, Bool.or_self, cond_false]
      rw [gd_pos (by unfold InI64; omega), hk0]
      have : zbj_p0 (zbj_n n) (32 - ((0 : Nat) : Int)) ((a : Int) + 1) 0 v nd.kind 0 [] = some (.inr ((a : Int) + 1)) := by
       unfold zbj_p0
       refine whileO_inr ?_
       unfold zbj_p0_step
       dsimp only
       rw [decide_eq_false (by omega), cond_false]
      rw [this]
      show some ((a : Int) + 1) = some (((a + 1 : Nat) : Int))
      congr 1
     ·rw [if_neg (fun h => hk h.2), decide_eq_true (by omega)]; rfl
   ·rw [decide_eq_true (by omega), cond_true, List.getElem?_eq_none (by omega)]
    rfl
 | succ d ih =>
  intro obj a n hd hn
  cases n with
  | zero => omega
  | succ n =>
   show zbj_t (zbj_n n) v a obj _ = _
   unfold zbj_t oneS
   have hlen := hv.1
   by_cases ha : a < v.length
   ·obtain ⟨nd, hnd, hmem, hget⟩ := nd_some ha
    obtain ⟨_, hp, hp2⟩ := pB_both (hv.2 nd hmem)
    have hu := p_utf nd.key (hv.2 nd hmem).key
    have hki := (hv.2 nd hmem).kids
    unfold InI64 at hki
    rw [decide_eq_false (by omega), cond_false, gd_pos (by omega), gd_pos (by omega), Int.toNat_natCast, hget, hp, obS, hu, obS, hnd]
    dsimp only
    have hb : (((!pB nd) || (!Lib.validD nd.key.data.toList)) || ((!obj) && (!decide (nd.key = (⟨#[]⟩ : ByteArray))))) = !okB obj nd := by
     unfold okB
     cases pB nd <;> cases Lib.validD nd.key.data.toList <;> cases obj <;> cases decide (nd.key = (⟨#[]⟩ : ByteArray)) <;> rfl
    rw [hb, decide_eq_false (show ¬ (32 - ((d + 1 : Nat) : Int) = 32) by omega), Bool.and_false, Bool.or_false]
    cases ho : okB obj nd with
    | false => rw [if_neg (fun h => by cases h)]; rfl
    | true =>
     rw [if_pos rfl]
     have hpb : pB nd = true := by unfold okB at ho; simp only [Bool.and_eq_true] at ho; exact ho.1.1
     have hz := hp2 hpb
     obtain ⟨kk, hkk⟩ := Int.eq_ofNat_of_zero_le hz.1
     simp only [Bool.not_true, cond_false]
     rw [gd_pos (by unfold InI64; omega)]
     have := take_kids hv (open_ := 32 - ((d + 1 : Nat) : Int)) (by omega) nd.kind (one := oneS v d (decide (nd.kind = 7))) (oneS_le v d _) (self := zbj_n n)
      (fun b => by rw [show (32 - ((d + 1 : Nat) : Int)) + 1 = 32 - (d : Int) by omega]; exact ih _ b n (by omega) (by omega)) kk (by omega) kk 0 (a + 1) [] (by omega) (by omega) (by simp)
     rw [show ((a + 1 : Nat) : Int) = (a : Int) + 1 by omega, show ((0 : Nat) : Int) = 0 from rfl] at this
     rw [hkk, this, obS, show ((kk : Int)).toNat = kk from rfl]
     cases kidsS v (oneS v d (decide (nd.kind = 7))) (decide (nd.kind = 7)) kk (a + 1) [] <;> rfl
   ·rw [decide_eq_true (by omega), cond_true, List.getElem?_eq_none (by omega)]
    rfl
theorem ref_Shaped {v : List Eng.Node} (hv : OkL v) : zbb_s v = some (decide (oneS v 32 false 0 = some v.length)) := by
 unfold zbb_s
 have ht : zbj_s v 0 false 0 = some (encE (oneS v 32 false 0)) := evt_eq (N := 33) fun n hn => by
  have := take_is hv 32 false 0 n (by omega) (by omega)
  rw [show 32 - ((32 : Nat) : Int) = 0 by omega, show ((0 : Nat) : Int) = 0 from rfl] at this
  exact this
 rw [ht]
 by_cases h0 : 0 < v.length
 ·rw [decide_eq_true (by omega), cond_true, obS]
  congr 1
  cases ho : oneS v 32 false 0 with
  | none =>
   show decide ((-1 : Int) = (v.length : Int)) = _
   rw [decide_eq_false (by omega), decide_eq_false (by simp)]
  | some e =>
   show decide ((e : Int) = (v.length : Int)) = _
   by_cases he : e = v.length
   ·rw [decide_eq_true (by omega), decide_eq_true (by rw [he])]
   ·rw [decide_eq_false (by omega), decide_eq_false (by simp [he])]
 ·rw [decide_eq_false (by omega), cond_false]
  have : v = [] := List.length_eq_zero_iff.1 (by omega)
  subst this
  rfl

/-! ### the program's pile -/
abbrev Lv := Int × MapC × Unit
def closeR : List Lv → List Lv
 | [] => []
 | x :: r => if x.1 = 0 then closeR r else x :: r
def closeS (S : List Lv) : List Lv := (closeR S.reverse).reverse
theorem closeS_snoc (B : List Lv) (x : Lv) : closeS (B ++ [x]) = if x.1 = 0 then closeS B else B ++ [x] := by
 have e : (B ++ [x]).reverse = x :: B.reverse := by simp
 unfold closeS
 rw [e]
 by_cases h : x.1 = 0
 ·rw [if_pos h, closeR, if_pos h]
 ·rw [if_neg h, closeR, if_neg h]; simp
theorem snoc_of (S : List Lv) : S = [] ∨ ∃ B x, S = B ++ [x] := by
 by_cases h : S = []
 ·exact .inl h
 ·exact .inr ⟨S.dropLast, S.getLast h, (List.dropLast_concat_getLast h).symm⟩
theorem snoc_len (B : List Lv) (x : Lv) : (B ++ [x]).length = B.length + 1 := by simp
theorem snoc_toNat (B : List Lv) (x : Lv) : Int.toNat (((B ++ [x]).length : Int) - 1) = B.length := by rw [snoc_len]; omega
theorem snoc_getD (B : List Lv) (x d : Lv) : (B ++ [x]).getD B.length d = x := by simp [List.getD_eq_getElem?_getD]
theorem snoc_set (B : List Lv) (x y : Lv) : (B ++ [x]).set B.length y = B ++ [y] := by simp
theorem snoc_take (B : List Lv) (x : Lv) : (B ++ [x]).take B.length = B := by simp
theorem p3_step (B : List Lv) (x : Lv) (hB : B.length ≤ 1000) : zaj_p3_step (B ++ [x]) = if x.1 = 0 then some (.inl B) else some (.inr (B ++ [x])) := by
 unfold zaj_p3_step
 have hl := snoc_len B x
 rw [gd_pos (fun _ => by unfold InI64; omega), gd_pos (fun _ => by omega), gd_pos (fun _ => by rw [snoc_toNat]; omega), gd_pos (fun _ => by rw [snoc_toNat]; omega)]
 simp only [snoc_toNat, snoc_getD, snoc_take]
 rw [decide_eq_true (by omega), Bool.true_and]
 by_cases h : x.1 = 0
 ·rw [if_pos h, decide_eq_true h, cond_true, gd_pos (by unfold InI64; omega), gd_pos (by omega)]
 ·rw [if_neg h, decide_eq_false h, cond_false]
theorem p3_close : ∀ (n : Nat) (S : List Lv), S.length ≤ n → S.length ≤ 1000 → zaj_p3 S = some (closeS S)
 | n, S, hn, hS => by
  rcases snoc_of S with rfl | ⟨B, x, rfl⟩
  ·unfold zaj_p3
   refine whileO_inr ?_
   unfold zaj_p3_step
   rw [gd_pos (fun h => by simp at h), gd_pos (fun h => by simp at h), gd_pos (fun h => by simp at h), gd_pos (fun h => by simp at h)]
   rfl
  ·rw [snoc_len] at hn hS
   have hst := p3_step B x (by omega)
   rw [closeS_snoc]
   cases n with
   | zero => omega
   | succ n =>
    by_cases h : x.1 = 0
    ·rw [if_pos h] at hst ⊢
     rw [← p3_close n B (by omega) (by omega)]
     unfold zaj_p3
     exact whileO_inl hst
    ·rw [if_neg h] at hst ⊢
     unfold zaj_p3
     exact whileO_inr hst
theorem p2_close (S : List Lv) (hS : S.length ≤ 1000) : zaj_p2 S = some (closeS S) := by
 unfold zaj_p2
 rw [p3_close S.length S (Nat.le_refl _) hS]
 rfl
theorem p1_is (S : List Lv) (hS : S.length ≤ 900) (kind kids : Int) : zaj_p1 S kind kids =
  if kind = 6 ∨ kind = 7 then (if 32 < S.length then some (.inl false) else some (.inr (closeS (S ++ [(kids, if kind = 7 then some [] else none, ())])))) else some (.inr (closeS S)) := by
 unfold zaj_p1
 by_cases h : kind = 6 ∨ kind = 7
 ·have : ((decide (kind = (6 : Int))) || (decide (kind = (7 : Int)))) = true := by simpa using h
  rw [if_pos h, this, cond_true]
  by_cases h32 : 32 < S.length
  ·rw [if_pos h32, decide_eq_true (by omega), cond_true]
  ·rw [if_neg h32, decide_eq_false (by omega), cond_false]
   by_cases h7 : kind = 7
   ·rw [decide_eq_true h7, cond_true, gd_pos (by simp; omega), p2_close _ (by simp; omega), if_pos h7]; rfl
   ·rw [decide_eq_false h7, cond_false, gd_pos (by simp; omega), p2_close _ (by simp; omega), if_neg h7]; rfl
 ·have : ((decide (kind = (6 : Int))) || (decide (kind = (7 : Int)))) = false := by
   rw [Bool.or_eq_false_iff, decide_eq_false_iff_not, decide_eq_false_iff_not]
   omega
  rw [if_neg h, this, cond_false, p2_close _ (by omega)]
  rfl
/-- A round of the loop. -/
theorem p0_step {v : List Eng.Node} (hv : OkL v) {a : Nat} {n : Eng.Node} (hn : v[a]? = some n) (B : List Lv) (l : Int) (nm : MapC) (hB : B.length ≤ 40) (hl : -9223372036854775807 ≤ l ∧ l ≤ 9223372036854775807) :
  zaj_p0_step (v.length : Int) (a : Int) v (B ++ [(l, nm, ())]) =
   if (pB n && !((nm.isNone && !decide (n.key = (⟨#[]⟩ : ByteArray))) || decide (0 < mget nm n.key) || !Lib.validD n.key.data.toList)) = true then
    (zaj_p1 (B ++ [(l - 1, mput nm n.key 1, ())]) n.kind n.kids).bind fun o => Sum.elim (fun b => some (.inr (.inl b))) (fun S' => some (.inl (((a + 1 : Nat) : Int), S'))) o
   else some (.inr (.inl false)) := by
 have hlt := (List.getElem?_eq_some_iff.1 hn).1
 have hmem : n ∈ v := by
  obtain ⟨h1, h2⟩ := List.getElem?_eq_some_iff.1 hn
  rw [← h2]; exact List.getElem_mem h1
 have hget := nd_get hn
 have hlen := hv.1
 have hok := hv.2 n hmem
 have hsl : ∀ x : Lv, (B ++ [x]).length = B.length + 1 := snoc_len B
 have g1 : ∀ {R : Type} (k : Option R) (x : Lv), gd (InI64 (((B ++ [x]).length : Int) - 1)) k = k := fun k x => gd_pos (by unfold InI64; rw [hsl]; omega) k
 have g2 : ∀ {R : Type} (k : Option R) (x : Lv), gd (0 ≤ (((B ++ [x]).length : Int) - 1) ∧ (((B ++ [x]).length : Int) - 1) < (B ++ [x]).length) k = k := fun k x => gd_pos (by rw [hsl]; omega) k
 have g3 : ∀ {R : Type} (k : Option R) (x : Lv), gd (B.length < (B ++ [x]).length) k = k := fun k x => gd_pos (by rw [hsl]; omega) k
 have g4 : ∀ {R : Type} (k : Option R) (x : Lv) (c : Bool), gd (c = false → B.length < (B ++ [x]).length) k = k := fun k x c => gd_pos (fun _ => by rw [hsl]; omega) k
 have g5 : ∀ {R : Type} (k : Option R), gd (InI64 (l - 1)) k = k := fun k => gd_pos (by unfold InI64; omega) k
 have g6 : ∀ {R : Type} (k : Option R), gd (InI64 ((a : Int) + 1)) k = k := fun k => gd_pos (by unfold InI64; omega) k
 have hvs : utf8_ValidString_s n.key = some (Lib.validD n.key.data.toList) := gd_pos (by have := hok.key; omega) _
 unfold zaj_p0_step
 rw [decide_eq_true (by omega), cond_true, gd_pos (by omega), gd_pos (by omega), decide_eq_false (by rw [hsl]; omega), cond_false, Int.toNat_natCast, hget, (pB_both hok).1, obS]
 cases hp : pB n with
 | false => rfl
 | true =>
  simp only [Bool.not_true, cond_false, snoc_toNat, snoc_getD, snoc_set, g1, g2, g3, g4, g5, hvs, obS, Bool.true_and]
  cases hc : ((nm.isNone && !decide (n.key = (⟨#[]⟩ : ByteArray))) || decide (0 < mget nm n.key) || !Lib.validD n.key.data.toList) with
  | true => rw [cond_true]; rfl
  | false =>
   rw [cond_false]
   simp only [Bool.not_false, if_true]
   cases nm with
   | none =>
    simp only [Option.isSome_none, cond_false, g6]
    rfl
   | some m =>
    simp only [Option.isSome_some, cond_true, g6, gd_pos]
    rfl
noncomputable def resS (v : List Eng.Node) (a : Nat) (S : List Lv) : Option Bool :=
 (zaj_p0 (v.length : Int) (a : Int) v S).bind fun o => some (Sum.elim id (fun S => decide ((S.length : Int) = 0)) o)
theorem resS_next {v : List Eng.Node} {a : Nat} {S S' : List Lv} (h : zaj_p0_step (v.length : Int) (a : Int) v S = some (.inl (((a + 1 : Nat) : Int), S'))) : resS v a S = resS v (a + 1) S' := by
 unfold resS zaj_p0
 rw [whileO_inl h]
theorem resS_stop {v : List Eng.Node} {a : Nat} {S : List Lv} {o : Bool ⊕ List Lv} (h : zaj_p0_step (v.length : Int) (a : Int) v S = some (.inr o)) : resS v a S = some (Sum.elim id (fun S => decide ((S.length : Int) = 0)) o) := by
 unfold resS zaj_p0
 rw [whileO_inr h]
 rfl
theorem resS_end {v : List Eng.Node} {a : Nat} (S : List Lv) (h : v.length ≤ a) : resS v a S = some (decide ((S.length : Int) = 0)) := by
 refine resS_stop (o := .inr S) ?_
 unfold zaj_p0_step
 rw [decide_eq_false (by omega), cond_false]
structure NmR (obj : Bool) (nm : MapC) (names : List ByteArray) : Prop where
 some_ : nm.isSome = obj
 mem : ∀ s, obj = true → (0 < mget nm s ↔ s ∈ names)
theorem mfind_mset (l : List (ByteArray × Int)) (s t : ByteArray) (x : Int) : mfind (mset l s x) t = if t = s then some x else mfind l t := by
 induction l with
 | nil =>
  show (bif decide (t = s) then some x else none) = _
  by_cases h : t = s
  ·rw [if_pos h, decide_eq_true h]; rfl
  ·rw [if_neg h, decide_eq_false h]; rfl
 | cons y r ih =>
  unfold mset
  by_cases hs : s = y.1
  ·rw [decide_eq_true hs, cond_true]
   show (bif decide (t = s) then some x else mfind r t) = _
   by_cases h : t = s
   ·rw [if_pos h, decide_eq_true h]; rfl
   ·rw [if_neg h, decide_eq_false h, cond_false]
    show mfind r t = (bif decide (t = y.1) then some y.2 else mfind r t)
    rw [decide_eq_false (by rw [← hs]; exact h), cond_false]
  ·rw [decide_eq_false hs, cond_false]
   unfold mfind
   rw [ih]
   by_cases hy : t = y.1
   ·rw [decide_eq_true hy, cond_true, cond_true, if_neg (by rw [hy]; exact fun h => hs h.symm)]
   ·rw [decide_eq_false hy, cond_false, cond_false]
theorem NmR.put {obj : Bool} {nm : MapC} {names : List ByteArray} (h : NmR obj nm names) (s : ByteArray) : NmR obj (mput nm s 1) (names ++ [s]) := by
 cases nm with
 | none =>
  refine ⟨h.some_, fun t ht => ?_⟩
  have := h.some_
  rw [ht] at this
  cases this
 | some l =>
  refine ⟨h.some_, fun t ht => ?_⟩
  have h2 := h.mem t ht
  show 0 < (mfind (mset l s 1) t).getD 0 ↔ _
  rw [mfind_mset, List.mem_append, List.mem_singleton]
  by_cases hts : t = s
  ·rw [if_pos hts]
   exact ⟨fun _ => .inr hts, fun _ => by decide⟩
  ·rw [if_neg hts]
   exact ⟨fun h => .inl (h2.1 h), fun h => h2.2 (h.resolve_right hts)⟩
def OneSim (v : List Eng.Node) (d : Nat) : Prop := ∀ (B : List Lv) (l : Int) (nm : MapC) (obj : Bool) (names : List ByteArray) (a : Nat), B.length + 1 + d = 33 → 1 ≤ l ∧ l ≤ 9223372036854775807 → NmR obj nm names →
 resS v a (B ++ [(l, nm, ())]) = match oneS v d obj a with
  | none => some false
  | some e => if obj = true ∧ keyAt v a ∈ names then some false else resS v e (closeS (B ++ [(l - 1, mput nm (keyAt v a) 1, ())]))
theorem kids_sim {v : List Eng.Node} {d : Nat} (hA : OneSim v d) (B : List Lv) (obj : Bool) (hB : B.length + 1 + d = 33) : ∀ (k a : Nat) (nm : MapC) (names : List ByteArray), ((k + 1 : Nat) : Int) ≤ 9223372036854775807 → NmR obj nm names →
  resS v a (B ++ [(((k + 1 : Nat) : Int), nm, ())]) = match kidsS v (oneS v d obj) obj (k + 1) a names with
   | none => some false
   | some e => resS v e (closeS B) := by
 have key : ∀ (k a : Nat) (nm : MapC) (names : List ByteArray) (l : Int), l = (k : Int) + 1 → (k : Int) ≤ 9000000000000000000 + 223372036854775806 → NmR obj nm names →
   resS v a (B ++ [(l, nm, ())]) = match kidsS v (oneS v d obj) obj (k + 1) a names with
    | none => some false
    | some e => resS v e (closeS B) := by
  intro k
  induction k with
  | zero =>
   intro a nm names l hl hk hnm
   rw [hA B _ nm obj names a hB (by omega) hnm]
   unfold kidsS
   cases ho : oneS v d obj a with
   | none => rfl
   | some e =>
    dsimp only
    by_cases hd : obj = true ∧ keyAt v a ∈ names
    ·rw [if_pos hd, if_pos hd]
    ·rw [if_neg hd, if_neg hd, closeS_snoc, if_pos (by show l - 1 = 0; omega)]
     rfl
  | succ k ih =>
   intro a nm names l hl hk hnm
   rw [hA B _ nm obj names a hB (by omega) hnm]
   unfold kidsS
   cases ho : oneS v d obj a with
   | none => rfl
   | some e =>
    dsimp only
    by_cases hd : obj = true ∧ keyAt v a ∈ names
    ·rw [if_pos hd, if_pos hd]
    ·rw [if_neg hd, if_neg hd, closeS_snoc, if_neg (by show ¬ (l - 1 = 0); omega)]
     exact ih e _ _ (l - 1) (by omega) (by omega) (hnm.put _)
 intro k a nm names hk hnm
 exact key k a nm names _ (by omega) (by omega) hnm
theorem one_sim {v : List Eng.Node} (hv : OkL v) : ∀ d : Nat, d ≤ 32 → OneSim v d := by
 intro d
 induction d with
 | zero =>
  intro hd B l nm obj names a hB hl hnm
  by_cases ha : a < v.length
  ·obtain ⟨n, hn, hmem, hget⟩ := nd_some ha
   have hk : keyAt v a = n.key := by unfold keyAt; rw [hget]
   have hst := p0_step hv hn B l nm (by omega) (by omega)
   have hpp := (pB_both (hv.2 n hmem)).2.2
   unfold oneS
   rw [hn]
   dsimp only
   rw [hk]
   have hcond : (pB n && !((nm.isNone && !decide (n.key = (⟨#[]⟩ : ByteArray))) || decide (0 < mget nm n.key) || !Lib.validD n.key.data.toList)) = (okB obj n && !(obj && decide (n.key ∈ names))) := by
    unfold okB
    rw [← hnm.some_]
    cases hnn : nm with
    | none =>
     have : mget (none : MapC) n.key = 0 := rfl
     rw [this]
     cases pB n <;> cases Lib.validD n.key.data.toList <;> cases decide (n.key = (⟨#[]⟩ : ByteArray)) <;> rfl
    | some m =>
     have hm := hnm.mem n.key (by rw [← hnm.some_, hnn]; rfl)
     rw [hnn] at hm
     rw [show decide (0 < mget (some m) n.key) = decide (n.key ∈ names) from decide_eq_decide.2 hm]
     cases pB n <;> cases Lib.validD n.key.data.toList <;> cases decide (n.key = (⟨#[]⟩ : ByteArray)) <;> cases decide (n.key ∈ names) <;> rfl
   rw [hcond] at hst
   cases hok : okB obj n with
   | false =>
    rw [hok, if_neg (by simp)] at hst
    rw [resS_stop hst, if_neg (fun h => by cases h.1)]
    rfl
   | true =>
    by_cases hdup : obj = true ∧ n.key ∈ names
    ·rw [hok, if_neg (by simp [hdup.1, hdup.2])] at hst
     rw [resS_stop hst]
     split <;> first | rfl | (rw [if_pos hdup]; rfl)
    ·rw [hok, if_pos (by simp only [Bool.true_and, Bool.not_eq_true', Bool.and_eq_false_iff, decide_eq_false_iff_not]; cases obj <;> simp_all), p1_is _ (by rw [snoc_len]; omega)] at hst
     have hpb : pB n = true := by unfold okB at hok; simp only [Bool.and_eq_true] at hok; exact hok.1.1
     have hz := hpp hpb
     by_cases h6 : n.kind < 6
     ·rw [if_neg (by omega)] at hst
      rw [if_pos ⟨rfl, h6⟩, resS_next hst]
      dsimp only
      rw [if_neg hdup]
     ·rw [if_pos (by omega), if_pos (by rw [snoc_len]; omega)] at hst
      rw [if_neg (fun h => h6 h.2), resS_stop hst]
      rfl
  ·rw [resS_end _ (by omega), snoc_len]
   unfold oneS
   rw [List.getElem?_eq_none (by omega)]
   dsimp only
   rw [decide_eq_false (by omega)]
 | succ d ih =>
  intro hd B l nm obj names a hB hl hnm
  by_cases ha : a < v.length
  ·obtain ⟨n, hn, hmem, hget⟩ := nd_some ha
   have hk : keyAt v a = n.key := by unfold keyAt; rw [hget]
   have hst := p0_step hv hn B l nm (by omega) (by omega)
   have hpp := (pB_both (hv.2 n hmem)).2.2
   have hki := (hv.2 n hmem).kids
   unfold InI64 at hki
   unfold oneS
   rw [hn]
   dsimp only
   rw [hk]
   have hcond : (pB n && !((nm.isNone && !decide (n.key = (⟨#[]⟩ : ByteArray))) || decide (0 < mget nm n.key) || !Lib.validD n.key.data.toList)) = (okB obj n && !(obj && decide (n.key ∈ names))) := by
    unfold okB
    rw [← hnm.some_]
    cases hnn : nm with
    | none =>
     have : mget (none : MapC) n.key = 0 := rfl
     rw [this]
     cases pB n <;> cases Lib.validD n.key.data.toList <;> cases decide (n.key = (⟨#[]⟩ : ByteArray)) <;> rfl
    | some m =>
     have hm := hnm.mem n.key (by rw [← hnm.some_, hnn]; rfl)
     rw [hnn] at hm
     rw [show decide (0 < mget (some m) n.key) = decide (n.key ∈ names) from decide_eq_decide.2 hm]
     cases pB n <;> cases Lib.validD n.key.data.toList <;> cases decide (n.key = (⟨#[]⟩ : ByteArray)) <;> cases decide (n.key ∈ names) <;> rfl
   rw [hcond] at hst
   cases hok : okB obj n with
   | false =>
    rw [hok, if_neg (by simp)] at hst
    rw [resS_stop hst, if_neg (fun h => by cases h)]
    rfl
   | true =>
    rw [if_pos rfl]
    by_cases hdup : obj = true ∧ n.key ∈ names
    ·rw [hok, if_neg (by simp [hdup.1, hdup.2])] at hst
     rw [resS_stop hst]
     split <;> first | rfl | (rw [if_pos hdup]; rfl)
    ·rw [hok, if_pos (by simp only [Bool.true_and, Bool.not_eq_true', Bool.and_eq_false_iff, decide_eq_false_iff_not]; cases obj <;> simp_all), p1_is _ (by rw [snoc_len]; omega)] at hst
     have hpb : pB n = true := by unfold okB at hok; simp only [Bool.and_eq_true] at hok; exact hok.1.1
     have hz := hpp hpb
     simp only [if_neg hdup]
     by_cases h6 : n.kind < 6
     ·rw [if_neg (by omega)] at hst
      rw [show n.kids.toNat = 0 by omega, resS_next hst]
      rfl
     ·rw [if_pos (by omega), if_neg (by rw [snoc_len]; omega)] at hst
      rw [resS_next hst, closeS_snoc]
      obtain ⟨kk, hkk⟩ := Int.eq_ofNat_of_zero_le hz.1
      rw [hkk, show ((kk : Int)).toNat = kk from rfl]
      cases kk with
      | zero =>
       rw [if_pos (by rfl)]
       rfl
      | succ kk =>
       rw [if_neg (by show ¬ ((((kk + 1 : Nat)) : Int) = 0); omega)]
       have := kids_sim (ih (by omega)) (B ++ [(l - 1, mput nm n.key 1, ())]) (decide (n.kind = 7)) (by rw [snoc_len]; omega) kk (a + 1) (if n.kind = 7 then some [] else none) [] (by omega)
        ⟨by by_cases h7 : n.kind = 7 <;> simp [h7], fun s hs => by
         rw [if_pos (of_decide_eq_true hs)]
         exact ⟨fun h => absurd (show (0 : Int) < 0 from h) (by decide), fun h => (by cases h)⟩⟩
       exact this
  ·rw [resS_end _ (by omega), snoc_len]
   unfold oneS
   rw [List.getElem?_eq_none (by omega)]
   dsimp only
   rw [decide_eq_false (by omega)]
theorem prog_Shaped {v : List Eng.Node} (hv : OkL v) : zaj_s v = some (decide (oneS v 32 false 0 = some v.length)) := by
 have h0 : zaj_s v = resS v 0 [((1 : Int), (none : MapC), ())] := by
  unfold zaj_s resS
  rw [show ((0 : Nat) : Int) = 0 from rfl]
  congr 1
  funext o
  cases o <;> rfl
 rw [h0]
 have := one_sim hv 32 (Nat.le_refl _) [] 1 none false [] 0 rfl (by omega) ⟨rfl, fun s h => by cases h⟩
 rw [List.nil_append] at this
 rw [this]
 cases ho : oneS v 32 false 0 with
 | none => simp
 | some e =>
  dsimp only
  have he := oneS_le v 32 false 0 e ho
  rw [if_neg (fun h => by cases h.1)]
  have hc : closeS ([] ++ [((1 : Int) - 1, mput none (keyAt v 0) 1, ())]) = [] := by
   rw [closeS_snoc, if_pos (by rfl)]; rfl
  rw [hc]
  by_cases hl : e < v.length
  ·rw [resS_stop (o := .inl false)]
   ·rw [decide_eq_false (by simp; omega)]; rfl
   ·unfold zaj_p0_step
    rw [decide_eq_true (by omega), cond_true, gd_pos (by omega), gd_pos (by omega)]
    rfl
  ·have : e = v.length := by omega
   rw [resS_end _ (by omega), this]
   simp
/-- The program and the document agree on what is well shaped. -/
theorem shaped_both {v : List Eng.Node} (hv : OkL v) : ∃ b, zaj_s v = some b ∧ zbb_s v = some b :=
 ⟨_, prog_Shaped hv, ref_Shaped hv⟩
end Go.Proofs.YtekkjbomadoplaaDoor
