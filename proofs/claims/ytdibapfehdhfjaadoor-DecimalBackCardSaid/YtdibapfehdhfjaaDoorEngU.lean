/-
  Words about values and slices that are only read.
-/
import Derived.Test.YtdibapfehdhfjaaDoorEngY
import Derived.Test.YtdibapfehdhfjaaDoorEngZ
namespace Go.Eng
set_option linter.unusedVariables false

/-- A word about values and the caller's slices, which it reads. -/
def wordV (g : List SV → List SB → Option (Prop × SV)) : Con := fun args hp => match g args hp with
  | some (p, r) => some (p, r, none)
  | none => none
theorem wordV_app (g : List SV → List SB → Option (Prop × SV)) (args : List SV) (hp : List SB) : wordV g args hp = match g args hp with
  | some (p, r) => some (p, r, none)
  | none => none := rfl

theorem Valid.ofV {P : Program} {f : Nat} {raws : List Nat} {ic : IC} {rv : List RV} {nt : Nat} (hc : chk P f raws = some (ic, rv, nt)) (nv : Nat) (Γ : Nat → Option Con) (hΓ : ∀ f C, Γ f = some C → Valid P f C) (g : List SV → List SB → Option (Prop × SV))
    (h : ∀ args hp p r, g args hp = some (p, r) → p → ∃ (args' : List SV) (hpv : List SB) (θ : List Nat), args = args'.map (SV.ren θ) ∧ args'.length ≤ nt ∧ (∀ v ∈ args', v.lt hpv.length) ∧
      (∀ i sb, hpv[i]? = some sb → ∃ (t : ET) (l : List t.T), sb = .view t l ∧ rowOf t hp[θ.getD i 0]? = some l) ∧ r.shut = true ∧
      ∀ (w : World) (ρ' : Nat → Value), VC ⟨⟨P, nt, noX, w, hpv.length, ρ'⟩, Γ, raws, nv, rv, fun x _ => x = r, hΓ⟩ [.code ic] ⟨argSl 0 args', hpv⟩) : Valid P f (wordV g) := by
  intro args hp p r q hC hpp hlt
  unfold wordV at hC
  split at hC
  · rename_i p' r' hg
    simp only [Option.some.injEq, Prod.mk.injEq] at hC
    obtain ⟨rfl, rfl, rfl⟩ := hC
    obtain ⟨args', hpv, θ, rfl, h1, h2, h3, h4, h5⟩ := h args hp _ _ hg hpp
    refine ⟨SV.shut_lt h4 _, fun X w0 w ρ hhp hf => ?_⟩
    have e : (args'.map (SV.ren θ)).map (SV.den ρ) = args'.map (SV.den fun i => ρ (θ.getD i 0)) := by
      rw [List.map_map]
      exact List.map_congr_left fun x _ => SV.ren_den θ ρ x
    rw [e]
    have hv : HpSat noX w w (fun i => ρ (θ.getD i 0)) hpv := HpSat.views fun i sb hi => by
      obtain ⟨t, l, rfl, hr⟩ := h3 i sb hi
      exact ⟨t, l, rfl, hhp.viewOf hf (rowOf_spec hr)⟩
    refine (walk hc nv Γ hΓ args' hpv h1 noX w _ hv h2 _ (h5 w _)).mono ?_
    rintro _ w' ⟨ρ', r'', hp', _, _, rfl, _, rfl, _, hf'⟩
    exact ⟨by rw [SV.shut_den h4 ρ' ρ], hhp.past hf hf'⟩
  · cases hC
end Go.Eng
