/-
  strconv.Itoa: the decimal numeral of every int64.
-/
import Derived.Test.YtdcoiccdbgcpaaaDoorEngO
import Derived.Test.YtdcoiccdbgcpaaaDoorProg
import Derived.Shelf.Strconv.Itoa4
import Derived.Shelf.Lay
import Derived.Ground.NamesProg
namespace Go.Proofs
open Go.Shelf

shelf_lay LaysM.n171 Nm 171 at Tryd as Tryd.laysItoa
end Go.Proofs
namespace Go.Proofs.YtdcoiccdbgcpaaaDoor
open Go.Eng
set_option linter.unusedVariables false
set_option linter.unusedSimpArgs false

def itoaB (n : Int) : ByteArray := ⟨(Lib.itoa n).toArray⟩
theorem stays_grow (w : World) (k : Nat) (os : Array Obj) : Stays (fun _ => False) w (Sort.grow (w.drewN k) os) := by
  refine ⟨rfl, rfl, ?_, fun i hi _ => ?_⟩
  · show w.heap.size ≤ (w.heap ++ os).size
    rw [Array.size_append]; omega
  · show (w.heap ++ os)[i]? = w.heap[i]?
    rw [Array.getElem?_append_left hi]
noncomputable def strconv_Itoa_s (i : Int) : Option ByteArray := gd (InI64 i) (some (itoaB i))
def strconv_Itoa_da := (dCons (dVC (dCO (dI .i64))) dNil)
def strconv_Itoa_db := (dNil : Dec Unit (List SB))
noncomputable def strconv_Itoa_c : CS := fun args hp R k => (Dec.d strconv_Itoa_da args).bind fun x => (Dec.d strconv_Itoa_db hp).bind fun y => (strconv_Itoa_s x.1).bind fun r => k (.c (.o (.val (.string r)))) []
theorem strconv_Itoa_val : ValidS Tryd.prog 105 strconv_Itoa_c := by
  refine ⟨fun args hp R k => ?_, fun args hp v hp' hC hlt X w ρ hhp => ?_⟩
  · show ((Dec.d strconv_Itoa_da args).bind fun x => (Dec.d strconv_Itoa_db hp).bind fun y => (strconv_Itoa_s x.1).bind fun r => k (.c (.o (.val (.string r)))) []) = (((Dec.d strconv_Itoa_da args).bind fun x => (Dec.d strconv_Itoa_db hp).bind fun y => (strconv_Itoa_s x.1).bind fun r => some (.c (.o (.val (.string r))), [])) : Option (SV × List SB)).bind fun z => k z.1 z.2
    cases Dec.d strconv_Itoa_da args with
    | none => rfl
    | some x =>
      cases Dec.d strconv_Itoa_db hp with
      | none => rfl
      | some y => simp only [Option.bind_some, Option.bind_assoc]
  · obtain ⟨x, h1, h2⟩ := Option.bind_eq_some_iff.1 hC
    obtain ⟨y, h3, h4⟩ := Option.bind_eq_some_iff.1 h2
    obtain ⟨r, h5, h6⟩ := Option.bind_eq_some_iff.1 h4
    obtain ⟨hi, h7⟩ := gd_some.1 h5
    rw [Dec.ok _ _ _ h1]
    have hhp' := Dec.ok _ _ _ h3
    obtain ⟨i, u⟩ := x
    simp only [Option.some.injEq, Prod.mk.injEq] at h6 h7
    obtain ⟨rfl, rfl⟩ := h6
    simp only at hi
    subst h7
    rw [hhp'] at hhp ⊢
    refine (Any.strconv_Itoa Tryd.laysItoa i hi.1 hi.2 w hhp.tab.1).mono ?_
    rintro e w' ⟨rfl, k, os, rfl⟩
    obtain ⟨g1, g2⟩ := hhp.past ⟨rfl, rfl, Nat.le_refl _, fun k _ _ => rfl⟩ (stays_grow w k os)
    exact ⟨ρ, fun _ _ => rfl, Nat.le_refl _, rfl, trivial, g1, g2⟩
noncomputable def strconv_Itoa_w : CQ := liftV [] strconv_Itoa_c
theorem strconv_Itoa_ok : ValidQ Tryd.prog 105 strconv_Itoa_w := liftV_valid strconv_Itoa_val
end Go.Proofs.YtdcoiccdbgcpaaaDoor
