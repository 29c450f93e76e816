/-
  DecimalCompares: its call returns true.
-/
import Derived.Test.YtdibapfehdhfjaaDoorPDecCmp2
import Derived.Below
namespace Go.Proofs.YtdibapfehdhfjaaDoor
open Go.Eng
set_option linter.unusedVariables false
set_option linter.unusedSimpArgs false

theorem below_of_stays {w w' : World} (h : Stays (fun _ => False) w w') : Go.RowKit.Below w.heap.size w w' := ⟨h.os, h.tape, h.output, h.size, fun k hk => h.block k hk id⟩
/-- A function that is handed numbers and texts alone. -/
theorem callS {P : Program} {f : Nat} {C : CS} (h : ValidS P f C) {args : List SV} {v : SV} (hc : C args [] (SV × List SB) (fun v hp' => some (v, hp')) = some (v, [])) (hs : args.all SV.shut = true) (hv : v.shut = true) (w : World) (vs : List Value) (hvs : args.map (SV.den fun _ => undef) = vs) :
    Calls P f vs.toArray w fun e w' => e = .returned (v.den fun _ => undef) ∧ Stays (fun _ => False) w w' := by
  have := h.2 args [] v [] hc (fun v hv => SV.shut_lt (List.all_eq_true.1 hs v hv) _) noX w (fun _ => undef) (HpSat.nil _ _ _)
  rw [hvs] at this
  exact this.mono fun e w' ⟨ρ', _, _, a, _, _, b⟩ => ⟨by rw [a, SV.shut_den hv ρ' fun _ => undef], b⟩
theorem decimalCompares_walk (a b : ByteArray) (W : World) (ha : a.size ≤ 100000000) (hb : b.size ≤ 100000000) : Calls Tryd.prog 5 #[.string a, .string b] W fun e w' => e = .returned (.bool true) ∧ Go.RowKit.Below W.heap.size W w' := by
  refine (callS signetlaw2_DecimalCompares_val (args := [.c (.o (.val (.string a))), .c (.o (.val (.string b)))]) (v := .c (.o (.val (.bool true)))) ?_ rfl rfl W [.string a, .string b] rfl).mono fun e w' ⟨h1, h2⟩ => ⟨h1, below_of_stays h2⟩
  show ((signetlaw2_DecimalCompares_s a b).bind fun r => some ((.c (.o (.val (.bool r))), []) : SV × List SB)) = _
  rw [decimalCompares_plain a b (by omega) (by omega)]
  rfl
end Go.Proofs.YtdibapfehdhfjaaDoor
