/-
 What a call leaves as it was (the tape apart): arguments read behind it as before. No program.
-/
import Derived.Test.YtekkjbomadoplaaDoorEngN
import Derived.Below
import Derived.Carry
namespace Go.Eng
open Go.RowKit
set_option linter.unusedVariables false

theorem i64_of_wf {a : Int} (h : (Lit.int .i64 a).wf = true) : -9223372036854775808 ≤ a ∧ a ≤ 9223372036854775807 := by
 simp [Lit.wf, IntKind.min, IntKind.max, IntKind.signed, IntKind.bits] at h
 exact h
structure LowB (w w' : World) : Prop where
 os : w'.os = w.os
 output : w'.output = w.output
 size : w.heap.size ≤ w'.heap.size
 block : ∀ k, k < w.heap.size → w'.heap[k]? = w.heap[k]?
theorem lowB_of_stays {w w' : World} (h : Stays (fun _ => False) w w') : LowB w w' := ⟨h.os, h.output, h.size, fun k hk => h.block k hk id⟩
theorem LowB.frame {W w' : World} (h : LowB W w') (may : MemPlace → Prop) : W.keptBut w' may := by
 refine ⟨h.os, h.output, fun i hi => ?_⟩
 rw [h.block i hi]
 split <;> simp_all
theorem LowB.same {W w' : World} (h : LowB W w') {p : MemPlace} (hp : p.block < W.heap.size) : W.sameAt w' p := by
 cases p with
 | cell b o => exact World.cell?_of_block (w := W) (h.block b hp)
 | map b => exact h.block b hp
theorem LowB.trod {H : Type} {enc : TypeId × Value → H} {P : Program} {t : TypeId} (hl : laidOutB P = true) (hr : P.readableRec t = true) (hrow : t < P.types.size) {W W' : World} {v : Value} {d : DataW H} {ps : List MemPlace}
  (h : DataW.Trod enc P W 0 (fun _ => true) true t v d ps) (hb : LowB W W') (hlt : ∀ x ∈ ps, x.block < W.heap.size) :
  DataW.Trod enc P W' 0 (fun b => decide (b < W.heap.size)) true t v d ps :=
 WideElems.Trod_stays hl hr hrow h (fun x hx => hb.same (hlt x hx)) (fun x hx => by simpa using hlt x hx)
/-- A function that is handed numbers and texts alone. -/
theorem callS {P : Program} {f : Nat} {C : CS} (h : ValidS P f C) {args : List SV} {v : SV} (hc : C args [] (SV × List SB) (fun v hp' => some (v, hp')) = some (v, [])) (hs : args.all SV.shut = true) (hv : v.shut = true) (w : World) (ht : tabOK noX w) (vs : List Value) (hvs : args.map (SV.den fun _ => undef) = vs) :
  Calls P f vs.toArray w fun e w' => e = .returned (v.den fun _ => undef) ∧ LowB w w' := by
 have := h.2 args [] v [] hc (fun v hv => SV.shut_lt (List.all_eq_true.1 hs v hv) _) noX w (fun _ => undef) (HpSat.nil _ _ ht _)
 rw [hvs] at this
 exact this.mono fun e w' ⟨ρ', _, _, a, _, _, b⟩ => ⟨by rw [a, SV.shut_den hv ρ' fun _ => undef], lowB_of_stays b⟩
end Go.Eng
