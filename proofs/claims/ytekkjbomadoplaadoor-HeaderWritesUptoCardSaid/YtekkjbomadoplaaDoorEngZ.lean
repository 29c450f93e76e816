/-
 Words about shut values: structures of plain values too.
-/
import Derived.Test.YtekkjbomadoplaaDoorEngX
namespace Go.Eng
set_option linter.unusedVariables false

def S0.shut : S0 → Bool
 | .val _ => true
 | _ => false
def SC.shut : SC → Bool
 | .o x => x.shut
 | .agg l => l.all S0.shut
def SV.shut : SV → Bool
 | .c x => x.shut
 | .tup l => l.all SC.shut
theorem S0.shut_den {x : S0} (h : x.shut = true) (ρ ρ' : Nat → Value) : x.den ρ = x.den ρ' := by
 cases x <;> first | rfl | cases h
theorem S0.shut_lt {x : S0} (h : x.shut = true) (n : Nat) : x.lt n := by
 cases x <;> first | trivial | cases h
theorem S0.shut_map {l : List S0} (h : l.all S0.shut = true) (ρ ρ' : Nat → Value) : l.map (S0.den ρ) = l.map (S0.den ρ') :=
 List.map_congr_left fun x hx => S0.shut_den (List.all_eq_true.1 h x hx) ρ ρ'
theorem SC.shut_den {x : SC} (h : x.shut = true) (ρ ρ' : Nat → Value) : x.den ρ = x.den ρ' := by
 cases x with
 | o y => exact S0.shut_den h ρ ρ'
 | agg l =>
  show Value.agg _ = Value.agg _
  rw [S0.shut_map h ρ ρ']
theorem SC.shut_lt {x : SC} (h : x.shut = true) (n : Nat) : x.lt n := by
 cases x with
 | o y => exact S0.shut_lt h n
 | agg l => exact fun y hy => S0.shut_lt (List.all_eq_true.1 h y hy) n
theorem SV.shut_den {x : SV} (h : x.shut = true) (ρ ρ' : Nat → Value) : x.den ρ = x.den ρ' := by
 cases x with
 | c y => exact SC.shut_den h ρ ρ'
 | tup l =>
  show Value.tuple _ = Value.tuple _
  rw [show l.map (SC.den ρ) = l.map (SC.den ρ') from List.map_congr_left fun y hy => SC.shut_den (List.all_eq_true.1 h y hy) ρ ρ']
theorem SV.shut_lt {x : SV} (h : x.shut = true) (n : Nat) : x.lt n := by
 cases x with
 | c y => exact SC.shut_lt h n
 | tup l => exact fun y hy => SC.shut_lt (List.all_eq_true.1 h y hy) n

/-- A word about shut values. -/
def wordS (g : List SV → Option (Prop × SV)) : Con := fun args _ => match g args with
 | some (p, r) => some (p, r, none)
 | none => none
/-- The same as a call. -/
theorem Valid.callS {P : Program} {f : Nat} {g : List SV → Option (Prop × SV)} (h : Valid P f (wordS g)) {args : List SV} {p : Prop} {r : SV} (hg : g args = some (p, r)) (hp : p) (hs : args.all SV.shut = true) (w : World) (ht : tabOK noX w) (vs : List Value) (hv : args.map (SV.den fun _ => undef) = vs) :
  Calls P f vs.toArray w fun e w' => e = .returned (r.den fun _ => undef) ∧ Stays (fun _ => False) w w' := by
 have := (h args [] p r none (by unfold wordS; rw [hg]) hp (fun v hv => SV.shut_lt (List.all_eq_true.1 hs v hv) _)).2 noX w w (fun _ => undef) (HpSat.nil _ _ ht _) ⟨rfl, rfl, Nat.le_refl _, fun k _ _ => rfl⟩
 rw [hv] at this
 exact this.mono fun e w' ⟨a, _, b⟩ => ⟨a, b⟩
end Go.Eng
