/-
 HeaderWrites: whatever the header: true. No program.
-/
import Derived.Test.YtekkjbomadoplaaDoorPPrint
import Derived.Test.YtekkjbomadoplaaDoorKeyName
namespace Go.Proofs.YtekkjbomadoplaaDoor
open Go.Eng
set_option linter.unusedVariables false
set_option linter.unusedSimpArgs false

theorem ref_Name (a : Int) (h : InI64 a) : zao_s a = some (algS a) := by
 have hn : zap_s = some algN := rfl
 have hl : algN.length = 13 := rfl
 unfold zao_s algS
 rw [hn]
 simp only [obS]
 by_cases h0 : a < 0
 ·rw [decide_eq_true h0, cond_true, if_pos (.inl h0)]
 ·rw [decide_eq_false h0, cond_false, hl]
  by_cases h1 : 13 ≤ a
  ·rw [decide_eq_true (by omega), cond_true, if_pos (.inr h1)]
  ·rw [decide_eq_false (by omega), cond_false, gd_pos (by omega), gd_pos (by omega), if_neg (by omega)]
   rfl
theorem valid_is (s : ByteArray) (hs : s.size ≤ 3000000) : zar_s s = some (Lib.validD s.data.toList) := by
 have hok : OkL [(⟨5, ⟨#[]⟩, s, false, 0, 0⟩ : Eng.Node)] := ⟨by simp, fun n hn => by
  rw [List.mem_singleton] at hn
  subst hn
  exact ⟨Nat.zero_le _, hs, (show InI64 0 by unfold InI64; omega)⟩⟩
 have hp : pB (⟨5, ⟨#[]⟩, s, false, 0, 0⟩ : Eng.Node) = Lib.validD s.data.toList := by
  unfold pB zak_s
  have : utf8_ValidString_s s = some (Lib.validD s.data.toList) := gd_pos (by omega) _
  show ((bif _ then _ else bif _ then _ else bif _ then _ else bif _ then ((utf8_ValidString_s s).bind _) else _ : Option Bool)).getD false = _
  rw [this]
  rfl
 have hone : oneS [(⟨5, ⟨#[]⟩, s, false, 0, 0⟩ : Eng.Node)] 32 false 0 = if Lib.validD s.data.toList = true then some 1 else none := by
  unfold oneS okB
  show (if (pB (⟨5, ⟨#[]⟩, s, false, 0, 0⟩ : Eng.Node) && Lib.validD [] && (false || decide ((⟨#[]⟩ : ByteArray) = (⟨#[]⟩ : ByteArray)))) = true then kidsS _ _ _ 0 (0 + 1) [] else none) = _
  rw [hp, Lib.validD_nil, decide_eq_true rfl]
  simp only [Bool.and_true, Bool.or_true]
  rfl
 unfold zar_s
 rw [ref_Shaped hok, hone]
 cases Lib.validD s.data.toList <;> rfl
def hN (k : Int) : Eng.Node := ⟨7, ⟨#[]⟩, ⟨#[]⟩, false, 0, k⟩
def hAlg (s : ByteArray) : Eng.Node := ⟨5, ⟨#[97, 108, 103]⟩, s, false, 0, 0⟩
def hKid (s : ByteArray) : Eng.Node := ⟨5, ⟨#[107, 105, 100]⟩, s, false, 0, 0⟩
def hTyp (s : ByteArray) : Eng.Node := ⟨5, ⟨#[116, 121, 112]⟩, s, false, 0, 0⟩
theorem algS_size (a : Int) : (algS a).size ≤ 3000000 := by
 unfold algS
 split
 ·exact Nat.zero_le _
 ·have key : ∀ k : Nat, (algAt k).size ≤ 5 := fun k => by
   rcases Nat.lt_or_ge k 13 with h | h
   ·match k, h with
    | 0, _ | 1, _ | 2, _ | 3, _ | 4, _ | 5, _ | 6, _ | 7, _ | 8, _ | 9, _ | 10, _ | 11, _ | 12, _ => decide
   ·have : algAt k = ⟨#[]⟩ := by
     unfold algAt
     rw [List.getD_eq_getElem?_getD, List.getElem?_eq_none (by show 13 ≤ k; exact h)]
     rfl
    rw [this]
    exact Nat.zero_le _
  have := key a.toNat
  omega
theorem header_both (h : api_Header) (ha : InI64 h.alg) (hk : h.kid.size ≤ 3000000) (ht : h.typ.size ≤ 3000000) : ∃ r, zae_s h = some r ∧ zaq_s h = some r := by
 have n1 : keyset_Name_s h.alg = some (algS h.alg) := gd_pos (by unfold InI64 at ha; omega) _
 have n2 := ref_Name h.alg ha
 have hz := algS_size h.alg
 have v1 : utf8_ValidString_s h.kid = some (Lib.validD h.kid.data.toList) := gd_pos (by omega) _
 have v2 := valid_is h.kid hk
 have v3 : utf8_ValidString_s h.typ = some (Lib.validD h.typ.data.toList) := gd_pos (by omega) _
 have v4 := valid_is h.typ ht
 have i0 : ∀ k : Int, InI64 k → ∀ l : List Eng.Node, l.length ≤ 10 → (∀ n ∈ l, OkN n) → OkL (hN k :: l) := fun k hk l hl hn => ⟨by simp only [List.length_cons]; omega, fun n hm => by
  rcases List.mem_cons.1 hm with rfl | hm
  ·exact ⟨Nat.zero_le _, Nat.zero_le _, hk⟩
  ·exact hn n hm⟩
 have z0 : InI64 0 := by unfold InI64; omega
 have okA : OkN (hAlg (algS h.alg)) := ⟨by show (3 : Nat) ≤ _; omega, hz, z0⟩
 have okK : OkN (hKid h.kid) := ⟨by show (3 : Nat) ≤ _; omega, hk, z0⟩
 have okT : OkN (hTyp h.typ) := ⟨by show (3 : Nat) ≤ _; omega, ht, z0⟩
 obtain ⟨r1, p1, p2⟩ := print_both (i0 2 (by unfold InI64; omega) [hAlg (algS h.alg), hKid h.kid] (by simp) (fun n hn => by
  simp only [List.mem_cons, List.not_mem_nil, or_false] at hn
  rcases hn with rfl | rfl
  ·exact okA
  ·exact okK))
 obtain ⟨r2, p3, p4⟩ := print_both (i0 3 (by unfold InI64; omega) [hAlg (algS h.alg), hKid h.kid, hTyp h.typ] (by simp) (fun n hn => by
  simp only [List.mem_cons, List.not_mem_nil, or_false] at hn
  rcases hn with rfl | rfl | rfl
  ·exact okA
  ·exact okK
  ·exact okT))
 have f1 : ∀ r : ByteArray × Int, ((some r : Option (ByteArray × Int)).bind fun r4 => some (r4.1, r4.2)) = some r := fun r => rfl
 have q2 : zaq_p0 (hN 2 :: [hAlg (algS h.alg), hKid h.kid]) = some r1 := by unfold zaq_p0; rw [p2]; rfl
 have q4 : zaq_p0 (hN 3 :: [hAlg (algS h.alg), hKid h.kid, hTyp h.typ]) = some r2 := by unfold zaq_p0; rw [p4]; rfl
 unfold zae_s zaq_s
 rw [n1, n2]
 simp only [obS]
 by_cases hne : algS h.alg = (⟨#[]⟩ : ByteArray)
 ·rw [decide_eq_true hne, cond_true, cond_true]
  exact ⟨_, rfl, rfl⟩
 rw [decide_eq_false hne, cond_false, cond_false, v1, v2]
 simp only [obS]
 cases Lib.validD h.kid.data.toList with
 | false => exact ⟨_, rfl, rfl⟩
 | true =>
  simp only [Bool.not_true, cond_false]
  cases hT : h.hasTyp with
  | false =>
   simp only [cond_false]
   refine ⟨r1, ?_, ?_⟩
   ·exact (congrArg (fun o => Option.bind o fun r4 : ByteArray × Int => some (r4.1, r4.2)) p1).trans (f1 r1)
   ·exact (congrArg (fun o => Option.bind o fun r4 : ByteArray × Int => some (r4.1, r4.2)) q2).trans (f1 r1)
  | true =>
   simp only [cond_true]
   rw [v3, v4]
   simp only [obS]
   cases Lib.validD h.typ.data.toList with
   | false => exact ⟨_, rfl, rfl⟩
   | true =>
    simp only [Bool.not_true, cond_false]
    refine ⟨r2, ?_, ?_⟩
    ·refine (gd_pos (by simp) _).trans ((gd_pos (by simp) _).trans ((gd_pos (by simp) _).trans ((gd_pos (show InI64 3 by unfold InI64; omega) _).trans ((gd_pos (by simp) _).trans ((gd_pos (by simp) _).trans ((gd_pos (by simp) _).trans ((gd_pos (by simp) _).trans ?_)))))))
     exact (congrArg (fun o => Option.bind o fun r4 : ByteArray × Int => some (r4.1, r4.2)) p3).trans (f1 r2)
    ·refine (gd_pos (by simp) _).trans ((gd_pos (by simp) _).trans ((gd_pos (by simp) _).trans ((gd_pos (by simp) _).trans ?_)))
     exact (congrArg (fun o => Option.bind o fun r4 : ByteArray × Int => some (r4.1, r4.2)) q4).trans (f1 r2)
/-- The law. -/
theorem headerWrites_plain (h : api_Header) (ha : InI64 h.alg) (hk : h.kid.size ≤ 1048576) (ht : h.typ.size ≤ 1048576) : zan_s h = some true := by
 obtain ⟨r, h1, h2⟩ := header_both h ha (by omega) (by omega)
 unfold zan_s
 rw [h1, h2]
 simp
end Go.Proofs.YtekkjbomadoplaaDoor
