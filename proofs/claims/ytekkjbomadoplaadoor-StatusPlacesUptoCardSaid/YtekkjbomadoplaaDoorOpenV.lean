/-
 Arguments that lead to memory (lists of texts, of numbers, of nodes), told as the engine's views; sizes by their bulk.
-/
import Derived.Test.YtekkjbomadoplaaDoorLow
import Derived.Test.YtekkjbomadoplaaDoorRows
import Derived.ProofKit
import Derived.Deep.Slices
import Derived.Deep.Fields
import Derived.ChangeSame
import Derived.SliceStrings
import Derived.SizedLaws
namespace Go.Proofs.YtekkjbomadoplaaDoor
open Go.RowKit Go.ChangeShapes Go.WideShapes Go.Deep Go.Eng
set_option linter.unusedVariables false
set_option maxRecDepth 100000

/-- A function that is handed what it only reads, and answers with a plain value. -/
theorem callV {P : Program} {f : Nat} {C : CS} (h : ValidS P f C) {args : List SV} {hp hp' : List SB} {v : SV} (hc : C args hp (SV × List SB) (fun v hp' => some (v, hp')) = some (v, hp')) (ha : ∀ x ∈ args, x.lt hp.length) (hv : v.shut = true) (w : World) {ρ : Nat → Value} (hs : HpSat noX w w ρ hp) (vs : List Value) (hvs : args.map (SV.den ρ) = vs) :
  Calls P f vs.toArray w fun e w' => e = .returned (v.den fun _ => undef) ∧ LowB w w' := by
 have := h.2 args hp v hp' hc ha noX w ρ hs
 rw [hvs] at this
 exact this.mono fun e w' ⟨ρ', _, _, a, _, _, b⟩ => ⟨by rw [a, SV.shut_den hv ρ' fun _ => undef], lowB_of_stays b⟩

/-- Views alone. -/
def ViewsOK (w : World) : List Value → List SB → Prop
 | [], [] => True
 | v :: vs, .view t l :: hp => ViewAt noX w w t v l ∧ ViewsOK w vs hp
 | _, _ => False
theorem viewsOK_at {w : World} : ∀ {vs : List Value} {hp : List SB}, ViewsOK w vs hp → ∀ (i : Nat) (sb : SB), hp[i]? = some sb → ∃ t l, sb = .view t l ∧ ViewAt noX w w t (vs.getD i undef) l
 | [], [], _, i, sb, h => by simp at h
 | v :: vs, .view t l :: hp, h, i, sb, hi => by
  cases i with
  | zero =>
   simp at hi
   exact ⟨t, l, hi.symm, h.1⟩
  | succ i =>
   obtain ⟨t', l', h1, h2⟩ := viewsOK_at h.2 i sb (by simpa using hi)
   exact ⟨t', l', h1, by simpa using h2⟩
 | [], _ :: _, h, _, _, _ => h.elim
 | _ :: _, [], h, _, _, _ => h.elim
 | _ :: _, .cells .. :: _, h, _, _, _ => h.elim
 | _ :: _, .row .. :: _, h, _, _, _ => h.elim
 | _ :: _, .part .. :: _, h, _, _, _ => h.elim
 | _ :: _, .dead :: _, h, _, _, _ => h.elim
theorem views_sat {w : World} {vs : List Value} {hp : List SB} (h : ViewsOK w vs hp) (ht : tabOK noX w) : HpSat noX w w (fun i => vs.getD i undef) hp := by
 have key := viewsOK_at h
 refine ⟨fun i hi => ?_, fun i sb hi => ?_, fun i sb hi => ?_, fun i j sb sb' b _ hi hj e1 _ _ _ => ?_, ht⟩
 ·obtain ⟨t, l, _, a, cap, hv, _⟩ := key i hp[i] (by simp [hi])
  show isRef (vs.getD i undef)
  rw [hv]
  trivial
 ·obtain ⟨t, l, rfl, hv⟩ := key i sb hi
  exact hv
 ·obtain ⟨t, l, rfl, hv⟩ := key i sb hi
  trivial
 ·obtain ⟨t, l, rfl, hv⟩ := key i sb hi
  cases e1

section
variable {H : Type} {enc : TypeId × Value → H} {W : World} {sp : Nat → Bool} {held : Bool} {r : Reach} {b0 : Nat}

theorem bulkAll_mem : ∀ {l : List (DataW H)} {d : DataW H}, d ∈ l → Rows.uptoBulk d ≤ Rows.uptoBulkAll l
 | x :: l, d, h => by
  simp only [Rows.uptoBulkAll]
  rcases List.mem_cons.1 h with rfl | h
  ·omega
  ·have := bulkAll_mem h
   omega
theorem bulk_pos (d : DataW H) : 1 ≤ Rows.uptoBulk d := by
 cases d with
 | lit l => cases l <;> simp [Rows.uptoBulk]
 | _ => all_goals simp [Rows.uptoBulk]
theorem bulkAll_len : ∀ (l : List (DataW H)), l.length ≤ Rows.uptoBulkAll l
 | [] => by simp
 | x :: l => by
  have h1 := bulk_pos x
  have h2 := bulkAll_len l
  simp only [Rows.uptoBulkAll, List.length_cons]
  omega

/-- The cells of a row of elements of kind t, told element by element. -/
theorem view_mk {t : ET} {a : Addr} {len cap : Nat} {N : Nat → t.T} (hl : len ≤ cap) (hb : 0 < len → a.block < W.heap.size)
  (hc : ∀ i, i < len → ∀ j u, (t.enc (N i))[j]? = some u → W.cell? (a.add (i * t.sz + j)) = some u) : ViewAt noX W W t (.slice (some a) len cap) ((List.range len).map N) := by
 refine ⟨some a, cap, by simp, by simpa using hl, fun p u hu => ⟨a, rfl, ?_⟩⟩
 have hlt : p < ((List.range len).map N).length * t.sz := by
  have := (List.getElem?_eq_some_iff.1 hu).1
  rwa [flatMap_len t.enc_len] at this
 simp only [List.length_map, List.length_range] at hlt
 have hsz := t.sz_pos
 have hi : p / t.sz < len := (Nat.div_lt_iff_lt_mul hsz).2 hlt
 have hj : p % t.sz < t.sz := Nat.mod_lt _ hsz
 have he : (t.enc (((List.range len).map N).getD (p / t.sz) t.dft))[p % t.sz]? = some (t.enc (N (p / t.sz)))[p % t.sz]! := by
  have e1 : ((List.range len).map N).getD (p / t.sz) t.dft = N (p / t.sz) := by simp [List.getD, hi]
  rw [e1, List.getElem?_eq_getElem (by rw [t.enc_len]; exact hj), List.getElem!_eq_getElem?_getD, List.getElem?_eq_getElem (by rw [t.enc_len]; exact hj)]
  rfl
 have h1 := flatMap_get t.enc_len t.dft ((List.range len).map N) (p / t.sz) (p % t.sz) _ (by simpa using hi) he
 have e2 : p / t.sz * t.sz + p % t.sz = p := Nat.div_add_mod' p t.sz
 rw [e2, hu] at h1
 have h2 := hc (p / t.sz) hi (p % t.sz) u (by
  have e1 : ((List.range len).map N).getD (p / t.sz) t.dft = N (p / t.sz) := by simp [List.getD, hi]
  rw [e1] at he
  rw [he, ← Option.some.inj h1])
 rw [e2] at h2
 exact ⟨h2, hb (Nat.lt_of_le_of_lt (Nat.zero_le _) hi), id⟩
theorem view_nil {t : ET} : ViewAt noX W W t (.slice none 0 0) [] := ⟨none, 0, rfl, Nat.le_refl _, fun j u h => by simp at h⟩

theorem choose_ltV {α : Type} [Inhabited α] {n : Nat} {P : Nat → α → Prop} (h : ∀ i, i < n → ∃ x, P i x) : ∃ f : Nat → α, ∀ i, i < n → P i (f i) := by
 classical
 refine ⟨fun i => if hi : i < n then (h i hi).choose else default, fun i hi => ?_⟩
 simp only [hi, dif_pos]
 exact (h i hi).choose_spec

/-- A node that an argument may hold. -/
structure NodeB (B : Nat) (n : Eng.Node) : Prop where
 kind : InI64 n.kind
 key : n.key.size ≤ B
 text : n.text.size ≤ B
 int : InI64 n.int
 kids : InI64 n.kids
instance : Inhabited Eng.Node := ⟨⟨0, .empty, .empty, false, 0, 0⟩⟩

theorem openV_strs_cells {fuel B : Nat} {c : Value} {y : DataW H × List MemPlace} (h : DataW.trod enc Tryd.prog W 0 sp held fuel 23 [c] = some y) (hz : Rows.uptoBulk y.1 ≤ B) :
  ∃ (v : Value) (xs : List ByteArray), [c] = [v] ∧ ViewAt noX W W .str v xs ∧ (∀ s ∈ xs, s.size ≤ B) ∧ xs.length ≤ B := by
 have hlt := DataW.trod_lt _ _ _ _ h
 rcases open_slice Tryd.underlying23 h with ⟨hcs, _⟩ | ⟨a, len, cap, m, fu, D, Pl, hcs, _, hl, hm, hmm, rfl, hel⟩
 ·exact ⟨_, [], hcs, view_nil, by simp, by simp⟩
 ·have hlm : len ≤ m := by rw [hmm]; split <;> omega
  rw [show Tryd.prog.cellsOf 9 = 1 by kernel_rfl] at hel
  simp only [Rows.uptoBulk] at hz
  have each : ∀ i, i < len → ∃ x : ByteArray, x.size ≤ B ∧ ∀ j u, (ET.str.enc x)[j]? = some u → W.cell? (a.add (i * 1 + j)) = some u := by
   intro i hi
   obtain ⟨cs', hcells, htr⟩ := hel i (by omega)
   obtain ⟨x, e, hd, _⟩ := DataW.trod_string Tryd.underlying9 htr
   have hd1 : D i = .lit (.string x.data.toList) := congrArg Prod.fst hd
   subst e
   obtain ⟨_, hcl, hat⟩ := World.cells?_some hcells
   refine ⟨x, ?_, fun j u hj => ?_⟩
   ·have h1 := bulkAll_mem (H := H) (l := (List.range len).map D) (List.mem_map.2 ⟨i, List.mem_range.2 hi, rfl⟩)
    rw [hd1] at h1
    simp only [Rows.uptoBulk, Array.length_toList] at h1
    have : x.size = x.data.size := rfl
    omega
   ·have hj1 : j < 1 := by
     have := (List.getElem?_eq_some_iff.1 hj).1
     simpa [ET.enc] using this
    have := hat j hj1
    rw [Go.Deep.add_add] at this
    rw [this]
    exact hj
  obtain ⟨N, hN⟩ := choose_ltV (α := ByteArray) each
  refine ⟨_, (List.range len).map N, hcs, view_mk (t := .str) hl (fun h0 => ?_) (fun i hi => (hN i hi).2), fun s hs => ?_, ?_⟩
  ·exact hlt (.cell a.block a.off) (by
    simp only [MemPlace.row, List.mem_append, List.mem_map, List.mem_range]
    exact .inl ⟨0, by rw [show Tryd.prog.cellsOf 9 = 1 by kernel_rfl]; omega, by simp⟩)
  ·obtain ⟨i, hi, rfl⟩ := List.mem_map.1 hs
   exact (hN i (List.mem_range.1 hi)).1
  ·have h1 := bulkAll_len (H := H) ((List.range len).map D)
   simp only [List.length_map, List.length_range] at h1 ⊢
   omega
theorem openV_node_cells {fuel B : Nat} {l : List Value} {y : DataW H × List MemPlace} (h : DataW.trod enc Tryd.prog W 0 sp held fuel 36 l = some y) (hz : Rows.uptoBulk y.1 ≤ B) :
  ∃ x : Eng.Node, l = ET.node.enc x ∧ NodeB B x := by
 obtain ⟨xs, n, _, hx, hll, hlen, hg⟩ := DataW.trod_struct Tryd.underlying36 h
 rw [show Tryd.prog.cellsOf 36 = 6 by kernel_rfl] at hll
 match l, hll, xs, hlen with
 | [c0, c1, c2, c3, c4, c5], _, [y0, y1, y2, y3, y4, y5], _ =>
  subst hx
  have g0 : DataW.trod enc Tryd.prog W 0 sp held n 34 [c0] = some y0 := by simpa [show Tryd.prog.cellsOf 34 = 1 by kernel_rfl] using hg 0 _ rfl
  have g1 : DataW.trod enc Tryd.prog W 0 sp held n 9 [c1] = some y1 := by simpa [show Tryd.prog.cellsOf 9 = 1 by kernel_rfl] using hg 1 _ rfl
  have g2 : DataW.trod enc Tryd.prog W 0 sp held n 9 [c2] = some y2 := by simpa [show Tryd.prog.cellsOf 9 = 1 by kernel_rfl] using hg 2 _ rfl
  have g3 : DataW.trod enc Tryd.prog W 0 sp held n 4 [c3] = some y3 := by simpa [show Tryd.prog.cellsOf 4 = 1 by kernel_rfl] using hg 3 _ rfl
  have g4 : DataW.trod enc Tryd.prog W 0 sp held n 2 [c4] = some y4 := by simpa [show Tryd.prog.cellsOf 2 = 1 by kernel_rfl] using hg 4 _ rfl
  have g5 : DataW.trod enc Tryd.prog W 0 sp held n 3 [c5] = some y5 := by simpa [show Tryd.prog.cellsOf 3 = 1 by kernel_rfl] using hg 5 _ rfl
  obtain ⟨a0, e0, d0, i0⟩ := DataW.trod_int Tryd.underlying34 g0
  obtain ⟨a1, e1, d1, i1⟩ := DataW.trod_string Tryd.underlying9 g1
  obtain ⟨a2, e2, d2, i2⟩ := DataW.trod_string Tryd.underlying9 g2
  obtain ⟨a3, e3, d3⟩ := DataW.trod_bool Tryd.underlying4 g3
  obtain ⟨a4, e4, d4, i4⟩ := DataW.trod_int Tryd.underlying2 g4
  obtain ⟨a5, e5, d5, i5⟩ := DataW.trod_int Tryd.underlying3 g5
  simp only [List.cons.injEq, and_true] at e0 e1 e2 e3 e4 e5
  subst e0 e1 e2 e3 e4 e5
  subst d0 d1 d2 d3 d4 d5
  simp only [List.map_cons, List.map_nil, Rows.uptoBulk, Rows.uptoBulkAll, Array.length_toList] at hz
  have q1 : a1.size = a1.data.size := rfl
  have q2 : a2.size = a2.data.size := rfl
  exact ⟨⟨a0, a1, a2, a3, a4, a5⟩, rfl, Go.Eng.i64_of_wf i0, by show a1.size ≤ B; omega, by show a2.size ≤ B; omega, Go.Eng.i64_of_wf i4, Go.Eng.i64_of_wf i5⟩

theorem openV_nodes_cells {fuel B : Nat} {c : Value} {y : DataW H × List MemPlace} (h : DataW.trod enc Tryd.prog W 0 sp held fuel 22 [c] = some y) (hz : Rows.uptoBulk y.1 ≤ B) :
  ∃ (v : Value) (xs : List Eng.Node), [c] = [v] ∧ ViewAt noX W W .node v xs ∧ (∀ n ∈ xs, NodeB B n) ∧ xs.length ≤ B := by
 have hlt := DataW.trod_lt _ _ _ _ h
 rcases open_slice Tryd.underlying22 h with ⟨hcs, _⟩ | ⟨a, len, cap, m, fu, D, Pl, hcs, _, hl, hm, hmm, rfl, hel⟩
 ·exact ⟨_, [], hcs, view_nil, by simp, by simp⟩
 ·have hlm : len ≤ m := by rw [hmm]; split <;> omega
  rw [show Tryd.prog.cellsOf 36 = 6 by kernel_rfl] at hel
  simp only [Rows.uptoBulk] at hz
  have each : ∀ i, i < len → ∃ x : Eng.Node, NodeB B x ∧ ∀ j u, (ET.node.enc x)[j]? = some u → W.cell? (a.add (i * 6 + j)) = some u := by
   intro i hi
   obtain ⟨cs', hcells, htr⟩ := hel i (by omega)
   have h1 := bulkAll_mem (H := H) (l := (List.range len).map D) (List.mem_map.2 ⟨i, List.mem_range.2 hi, rfl⟩)
   obtain ⟨x, rfl, hok⟩ := openV_node_cells (B := B) htr (by show Rows.uptoBulk (D i) ≤ B; omega)
   obtain ⟨_, hcl, hat⟩ := World.cells?_some hcells
   refine ⟨x, hok, fun j u hj => ?_⟩
   have hj6 : j < 6 := by
    have := (List.getElem?_eq_some_iff.1 hj).1
    simpa [ET.enc] using this
   have := hat j hj6
   rw [hj, Go.Deep.add_add] at this
   exact this
  obtain ⟨N, hN⟩ := choose_ltV (α := Eng.Node) each
  refine ⟨_, (List.range len).map N, hcs, view_mk (t := .node) hl (fun h0 => ?_) (fun i hi => (hN i hi).2), fun s hs => ?_, ?_⟩
  ·exact hlt (.cell a.block a.off) (by
    simp only [MemPlace.row, List.mem_append, List.mem_map, List.mem_range]
    exact .inl ⟨0, by rw [show Tryd.prog.cellsOf 36 = 6 by kernel_rfl]; omega, by simp⟩)
  ·obtain ⟨i, hi, rfl⟩ := List.mem_map.1 hs
   exact (hN i (List.mem_range.1 hi)).1
  ·have h1 := bulkAll_len (H := H) ((List.range len).map D)
   simp only [List.length_map, List.length_range] at h1 ⊢
   omega
end
end Go.Proofs.YtekkjbomadoplaaDoor
