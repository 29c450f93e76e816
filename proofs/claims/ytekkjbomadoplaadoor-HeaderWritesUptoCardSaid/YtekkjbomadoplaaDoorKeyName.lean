/-
 signet/keyset.Name: its word (the names lie in a package variable).
-/
import Derived.Test.YtekkjbomadoplaaDoorEngO
import Derived.Test.YtekkjbomadoplaaDoorUtf8
import Derived.Test.YtekkjbomadoplaaDoorProg
import Derived.WalkKit
import Derived.BigQuiet
namespace Go.Proofs.YtekkjbomadoplaaDoor
open Go.RowKit Go.Eng
set_option linter.unusedVariables false
set_option linter.unusedSimpArgs false

theorem keyName_run (a : Int) (w : World) (ha : a ≤ 9223372036854775807) (ht : ∀ k, k < 13 → w.cell? ⟨0, k, none⟩ = some (.string (algAt k))) :
  Calls Tryd.prog 30 #[.int .i64 a] w fun e w' => e = .returned (.string (algS a)) ∧ w = w' := by
 by_cases h0 : a < 0
 ·have Hn : HidF (algS a = ⟨#[]⟩) := ⟨by unfold algS; rw [if_pos (.inl h0)]⟩
  clear ht
  go_enter Tryd.func30, Tryd.ntmps30
  go_wp2
  go_ret
  exact ⟨by rw [Hn.out]; rfl, rfl⟩
 ·by_cases h1 : 13 ≤ a
  ·have Hn : HidF (algS a = ⟨#[]⟩) := ⟨by unfold algS; rw [if_pos (.inr h1)]⟩
   clear ht
   go_enter Tryd.func30, Tryd.ntmps30
   go_wp2
   go_ret
   exact ⟨by rw [Hn.out]; rfl, rfl⟩
  ·obtain ⟨k, rfl⟩ := Int.eq_ofNat_of_zero_le (Int.not_lt.1 h0)
   have Hn : HidF (algS k = algAt k) := ⟨by unfold algS; rw [if_neg (by omega)]; rfl⟩
   have hc := ht k (by omega)
   clear ht
   go_enter Tryd.func30, Tryd.ntmps30
   go_wp2
   go_ret
   exact ⟨by rw [Hn.out]; rfl, rfl⟩
def keyName_da := (dCons (dVC (dCO (dI .i64))) dNil)
def keyName_db := (dNil : Dec Unit (List SB))
noncomputable def keyset_Name_s (a : Int) : Option ByteArray := gd (a ≤ 9223372036854775807) (some (algS a))
noncomputable def keyset_Name_c : CS := fun args hp R k => (Dec.d keyName_da args).bind fun x => (Dec.d keyName_db hp).bind fun y => (keyset_Name_s x.1).bind fun r => k (.c (.o (.val (.string r)))) []
theorem keyset_Name_val : ValidS Tryd.prog 30 keyset_Name_c := by
 refine ⟨fun args hp R k => given_cont (A := keyName_da) (B := keyName_db) (fun x => keyset_Name_s x.1) (fun r => .c (.o (.val (.string r)))) args hp R k, fun args hp v hp' hC hlt X w ρ hhp => ?_⟩
 obtain ⟨x, h1, h2⟩ := Option.bind_eq_some_iff.1 hC
 obtain ⟨y, h3, h4⟩ := Option.bind_eq_some_iff.1 h2
 obtain ⟨r, h5, h6⟩ := Option.bind_eq_some_iff.1 h4
 obtain ⟨hi, h7⟩ := gd_some.1 h5
 rw [Dec.ok _ _ _ h1]
 have hhp' := Dec.ok _ _ _ h3
 obtain ⟨s, u⟩ := x
 simp only [snJ, Prod.mk.injEq] at h6 h7
 obtain ⟨rfl, rfl⟩ := h6
 simp only at hi
 subst h7
 rw [hhp'] at hhp ⊢
 refine (keyName_run s w hi hhp.tab.2.1).mono ?_
 rintro e w' ⟨rfl, rfl⟩
 obtain ⟨g1, g2⟩ := hhp.past ⟨rfl, rfl, Nat.le_refl _, fun k _ _ => rfl⟩ ⟨rfl, rfl, Nat.le_refl _, fun k _ _ => rfl⟩
 exact ⟨ρ, fun _ _ => rfl, Nat.le_refl _, rfl, trivial, g1, g2⟩
noncomputable def keyset_Name_w : CQ := liftV [] keyset_Name_c
theorem keyset_Name_ok : ValidQ Tryd.prog 30 keyset_Name_w := liftV_valid keyset_Name_val
end Go.Proofs.YtekkjbomadoplaaDoor
