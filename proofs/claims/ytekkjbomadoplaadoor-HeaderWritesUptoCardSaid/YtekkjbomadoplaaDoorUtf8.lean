/-
 unicode/utf8.ValidString, DecodeRuneInString, FullRuneInString: their words (by the kit's shelf; the last by XFull).
-/
import Derived.Test.YtekkjbomadoplaaDoorEngO
import Derived.Test.YtekkjbomadoplaaDoorFull
import Derived.Test.YtekkjbomadoplaaDoorProg
import Derived.Shelf.Unicode.ValidAny
import Derived.Shelf.Unicode.DecodeAny
import Derived.Shelf.Lay
import Derived.Ground.NamesProg
namespace Go.Proofs
open Go.Shelf

shelf_lay Lays.n196 Nm 196 at Tryd as Tryd.laysValid
shelf_lay Lays.n197 Nm 197 at Tryd as Tryd.laysDecode
end Go.Proofs
namespace Go.Proofs.YtekkjbomadoplaaDoor
open Go.Eng
set_option linter.unusedVariables false
set_option linter.unusedSimpArgs false

theorem stays_below {w w' : World} (h : Go.RowKit.Below w.heap.size w w') : Stays (fun _ => False) w w' := ⟨h.os, h.output, h.size, fun k hk _ => h.block k hk⟩
theorem given_cont {α β γ : Type} {A : Dec α (List SV)} {B : Dec β (List SB)} (f : α → Option γ) (v : γ → SV) (args : List SV) (hp : List SB) (R : Type) (k : SV → List SB → Option R) :
  ((Dec.d A args).bind fun x => (Dec.d B hp).bind fun y => (f x).bind fun r => k (v r) []) = (((Dec.d A args).bind fun x => (Dec.d B hp).bind fun y => (f x).bind fun r => some (v r, ([] : List SB))) : Option (SV × List SB)).bind fun z => k z.1 z.2 := by
 cases Dec.d A args with
 | none => rfl
 | some x =>
  cases Dec.d B hp with
  | none => rfl
  | some y => simp only [obS, Option.bind_assoc]
def utf8_da := (dCons (dVC (dCO dS)) dNil)
def utf8_db := (dNil : Dec Unit (List SB))
noncomputable def utf8_ValidString_s (s : ByteArray) : Option Bool := gd (s.size ≤ 9223372036854775807) (some (Lib.validD s.data.toList))
noncomputable def utf8_ValidString_c : CS := fun args hp R k => (Dec.d utf8_da args).bind fun x => (Dec.d utf8_db hp).bind fun y => (utf8_ValidString_s x.1).bind fun r => k (.c (.o (.val (.bool r)))) []
theorem utf8_ValidString_val : ValidS Tryd.prog 31 utf8_ValidString_c := by
 refine ⟨fun args hp R k => given_cont (A := utf8_da) (B := utf8_db) (fun x => utf8_ValidString_s x.1) (fun r => .c (.o (.val (.bool r)))) args hp R k, fun args hp v hp' hC hlt X w ρ hhp => ?_⟩
 obtain ⟨x, h1, h2⟩ := Option.bind_eq_some_iff.1 hC
 obtain ⟨y, h3, h4⟩ := Option.bind_eq_some_iff.1 h2
 obtain ⟨r, h5, h6⟩ := Option.bind_eq_some_iff.1 h4
 obtain ⟨hi, h7⟩ := gd_some.1 h5
 rw [Dec.ok _ _ _ h1]
 have hhp' := Dec.ok _ _ _ h3
 obtain ⟨s, u⟩ := x
 simp only [snJ, Prod.mk.injEq] at h6 h7
 obtain ⟨rfl, rfl⟩ := h6
 simp only at hi
 subst h7
 rw [hhp'] at hhp ⊢
 refine (Any.utf8_ValidString Tryd.laysValid s w hi hhp.tab.1).mono ?_
 rintro e w' ⟨rfl, hb⟩
 obtain ⟨g1, g2⟩ := hhp.past ⟨rfl, rfl, Nat.le_refl _, fun k _ _ => rfl⟩ (stays_below hb)
 exact ⟨ρ, fun _ _ => rfl, Nat.le_refl _, rfl, trivial, g1, g2⟩
noncomputable def utf8_ValidString_w : CQ := liftV [] utf8_ValidString_c
theorem utf8_ValidString_ok : ValidQ Tryd.prog 31 utf8_ValidString_w := liftV_valid utf8_ValidString_val
end Go.Proofs.YtekkjbomadoplaaDoor
