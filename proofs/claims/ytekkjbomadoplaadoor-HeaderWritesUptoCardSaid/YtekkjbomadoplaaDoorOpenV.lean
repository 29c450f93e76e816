/-
 Arguments that lead to memory (lists of texts, of numbers, of nodes), told as the engine's views; sizes by their bulk.
-/
import Derived.Test.YtekkjbomadoplaaDoorLow
import Derived.Test.YtekkjbomadoplaaDoorRows
import Derived.ProofKit
import Derived.Deep.Slices
import Derived.Deep.Fields
import Derived.ChangeSame
import Derived.SliceStrings
import Derived.SizedLaws
namespace Go.Proofs.YtekkjbomadoplaaDoor
open Go.RowKit Go.ChangeShapes Go.WideShapes Go.Deep Go.Eng
set_option linter.unusedVariables false
set_option maxRecDepth 100000

/-- A function that is handed what it only reads, and answers with a plain value. -/
theorem callV {P : Program} {f : Nat} {C : CS} (h : ValidS P f C) {args : List SV} {hp hp' : List SB} {v : SV} (hc : C args hp (SV × List SB) (fun v hp' => some (v, hp')) = some (v, hp')) (ha : ∀ x ∈ args, x.lt hp.length) (hv : v.shut = true) (w : World) {ρ : Nat → Value} (hs : HpSat noX w w ρ hp) (vs : List Value) (hvs : args.map (SV.den ρ) = vs) :
  Calls P f vs.toArray w fun e w' => e = .returned (v.den fun _ => undef) ∧ LowB w w' := by
 have := h.2 args hp v hp' hc ha noX w ρ hs
 rw [hvs] at this
 exact this.mono fun e w' ⟨ρ', _, _, a, _, _, b⟩ => ⟨by rw [a, SV.shut_den hv ρ' fun _ => undef], lowB_of_stays b⟩

/-- Views alone. -/
def ViewsOK (w : World) : List Value → List SB → Prop
 | [], [] => True
 | v :: vs, .view t l :: hp => ViewAt noX w w t v l ∧ ViewsOK w vs hp
 | _, _ => False
theorem viewsOK_at {w : World} : ∀ {vs : List Value} {hp : List SB}, ViewsOK w vs hp → ∀ (i : Nat) (sb : SB), hp[i]? = some sb → ∃ t l, sb = .view t l ∧ ViewAt noX w w t (vs.getD i undef) l
 | [], [], _, i, sb, h => by simp at h
 | v :: vs, .view t l :: hp, h, i, sb, hi => by
  cases i with
  | zero =>
   simp at hi
   exact ⟨t, l, hi.symm, h.1⟩
  | succ i =>
   obtain ⟨t', l', h1, h2⟩ := viewsOK_at h.2 i sb (by simpa using hi)
   exact ⟨t', l', h1, by simpa using h2⟩
 | [], _ :: _, h, _, _, _ => h.elim
 | _ :: _, [], h, _, _, _ => h.elim
 | _ :: _, .cells .. :: _, h, _, _, _ => h.elim
 | _ :: _, .row .. :: _, h, _, _, _ => h.elim
 | _ :: _, .part .. :: _, h, _, _, _ => h.elim
 | _ :: _, .dead :: _, h, _, _, _ => h.elim
theorem views_sat {w : World} {vs : List Value} {hp : List SB} (h : ViewsOK w vs hp) (ht : tabOK noX w) : HpSat noX w w (fun i => vs.getD i undef) hp := by
 have key := viewsOK_at h
 refine ⟨fun i hi => ?_, fun i sb hi => ?_, fun i sb hi => ?_, fun i j sb sb' b _ hi hj e1 _ _ _ => ?_, ht⟩
 ·obtain ⟨t, l, _, a, cap, hv, _⟩ := key i hp[i] (by simp [hi])
  show isRef (vs.getD i undef)
  rw [hv]
  trivial
 ·obtain ⟨t, l, rfl, hv⟩ := key i sb hi
  exact hv
 ·obtain ⟨t, l, rfl, hv⟩ := key i sb hi
  trivial
 ·obtain ⟨t, l, rfl, hv⟩ := key i sb hi
  cases e1

section
variable {H : Type} {enc : TypeId × Value → H} {W : World} {sp : Nat → Bool} {held : Bool} {r : Reach} {b0 : Nat}

/-- The cells of a row of elements of kind t, told element by element. -/
theorem view_mk {t : ET} {a : Addr} {len cap : Nat} {N : Nat → t.T} (hl : len ≤ cap) (hb : 0 < len → a.block < W.heap.size)
  (hc : ∀ i, i < len → ∀ j u, (t.enc (N i))[j]? = some u → W.cell? (a.add (i * t.sz + j)) = some u) : ViewAt noX W W t (.slice (some a) len cap) ((List.range len).map N) := by
 refine ⟨some a, cap, by simp, by simpa using hl, fun p u hu => ⟨a, rfl, ?_⟩⟩
 have hlt : p < ((List.range len).map N).length * t.sz := by
  have := (List.getElem?_eq_some_iff.1 hu).1
  rwa [flatMap_len t.enc_len] at this
 simp only [List.length_map, List.length_range] at hlt
 have hsz := t.sz_pos
 have hi : p / t.sz < len := (Nat.div_lt_iff_lt_mul hsz).2 hlt
 have hj : p % t.sz < t.sz := Nat.mod_lt _ hsz
 have he : (t.enc (((List.range len).map N).getD (p / t.sz) t.dft))[p % t.sz]? = some (t.enc (N (p / t.sz)))[p % t.sz]! := by
  have e1 : ((List.range len).map N).getD (p / t.sz) t.dft = N (p / t.sz) := by simp [List.getD, hi]
  rw [e1, List.getElem?_eq_getElem (by rw [t.enc_len]; exact hj), List.getElem!_eq_getElem?_getD, List.getElem?_eq_getElem (by rw [t.enc_len]; exact hj)]
  rfl
 have h1 := flatMap_get t.enc_len t.dft ((List.range len).map N) (p / t.sz) (p % t.sz) _ (by simpa using hi) he
 have e2 : p / t.sz * t.sz + p % t.sz = p := Nat.div_add_mod' p t.sz
 rw [e2, hu] at h1
 have h2 := hc (p / t.sz) hi (p % t.sz) u (by
  have e1 : ((List.range len).map N).getD (p / t.sz) t.dft = N (p / t.sz) := by simp [List.getD, hi]
  rw [e1] at he
  rw [he, ← Option.some.inj h1])
 rw [e2] at h2
 exact ⟨h2, hb (Nat.lt_of_le_of_lt (Nat.zero_le _) hi), id⟩
/-- A node that an argument may hold. -/
structure NodeB (B : Nat) (n : Eng.Node) : Prop where
 kind : InI64 n.kind
 key : n.key.size ≤ B
 text : n.text.size ≤ B
 int : InI64 n.int
 kids : InI64 n.kids
instance : Inhabited Eng.Node := ⟨⟨0, .empty, .empty, false, 0, 0⟩⟩

end
end Go.Proofs.YtekkjbomadoplaaDoor
