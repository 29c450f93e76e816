/-
  Opening arguments: lists of texts, lists of nodes, structs by value (printed by structs.py).
-/
import Derived.Test.YtoafhhhnomnjiaaCommon
import Derived.Test.YtoafhhhnomnjiaaProg
import Derived.ProofKit
import Derived.Deep.Slices
import Derived.Deep.Fields
import Derived.ChangeSame
import Derived.SliceStrings
import Derived.SizedLaws
namespace Go.Proofs.Ytoafhhhnomnjiaa
open Go.RowKit Go.ChangeShapes Go.WideShapes Go.Deep
set_option linter.unusedVariables false
set_option maxRecDepth 100000

section
variable {H : Type} {enc : TypeId × Value → H} {W : World} {sp : Nat → Bool} {held : Bool} {r : Reach} {b0 : Nat}

theorem size_of_weights {P : Program} {T : TypeId} {s : ByteArray} (h : ∀ x ∈ (DataW.lit (.string s.data.toList) : DataW H).weights P T, x ≤ RB) : s.size ≤ RB := by
  have h2 := h s.data.toList.length (by simp only [DataW.weights]; exact List.mem_singleton.2 rfl)
  rw [Array.length_toList] at h2
  exact h2

theorem open_strs_cells {fuel : Nat} {c : Value} {y : DataW H × List MemPlace} (h : DataW.trod enc Try.prog W 0 sp held fuel 23 [c] = some y) (hz : ∀ x ∈ y.1.weights Try.prog 23, x ≤ RB) :
    ∃ A n cap xs, [c] = [.slice A n cap] ∧ StrsArg W A n cap xs := by
  have hlt := DataW.trod_lt _ _ _ _ h
  rcases open_strings Try.underlying23 Try.underlying9 (by kernel_rfl) h with ⟨hcs, _⟩ | ⟨a, len, cap, ss, hcs, _, hl, hm, hss, rfl, hcell, hws⟩
  · exact ⟨none, 0, 0, [], hcs, strsArg_nil W⟩
  · refine ⟨some a, len, cap, ss.take len, hcs, ?_⟩
    have hsl : len ≤ ss.length := by rw [hss]; split <;> omega
    have hlt' : 0 < ss.length → a.block < W.heap.size := fun h0 => by
      have := hlt (.cell a.block a.off) (by
        simp only [MemPlace.row, List.mem_map, List.mem_range]
        exact ⟨0, h0, by simp⟩)
      exact this
    refine strsArg_mk hl hm (by simp; omega) (fun h0 => hlt' (by omega)) (fun i s hi => ?_) ?_ ?_
    · have hil : i < ss.length := by
        have := (List.getElem?_eq_some_iff.1 hi).1
        simp at this
        omega
      have h2 := hcell i hil
      have h3 : ss[i]? = some s := by
        rw [List.getElem?_take] at hi
        split at hi
        · exact hi
        · cases hi
      rw [h2]
      simp [List.getD, h3]
    · intro s hs
      have hin := List.mem_of_mem_take hs
      have := hz s.data.toList.length (by
        simp only [DataW.weights, Try.underlying23, List.mem_cons, List.mem_append]
        refine .inr (.inl ?_)
        clear hcell hws hlt hlt' hz
        generalize ss.take len = l at hs
        induction l with
        | nil => cases hs
        | cons x l ih =>
          simp only [strs, List.map_cons, DataW.weightsAll, List.mem_append]
          rcases List.mem_cons.1 hs with rfl | hs
          · exact .inl (by simp [DataW.weights])
          · exact .inr (ih hs))
      rw [Array.length_toList] at this
      exact this
    · have := hz ((strs (H := H) (ss.take len)).length * 16 + (strs (H := H) (ss.drop len)).length * 16) (by
        simp only [DataW.weights, Try.underlying23, List.mem_cons]
        refine .inl ?_
        rw [show Try.prog.bytesOf 9 = 16 by kernel_rfl, Nat.add_mul])
      have h2 : (strs (H := H) (ss.take len)).length = len := by simp [strs]; omega
      rw [h2] at this
      omega

theorem open_strs {v : Value} {d : DataW H} {p : List MemPlace} (hv : Value.okWide Try.prog W r b0 23 v) (h : DataW.Trod enc Try.prog W 0 sp held 23 v d p) (hz : ∀ x ∈ d.weights Try.prog 23, x ≤ RB) :
    ∃ A n cap xs, v = .slice A n cap ∧ StrsArg W A n cap xs := by
  obtain ⟨A0, n0, c0, rfl⟩ := okWide_slice Try.underlying23 hv
  obtain ⟨fuel, hf⟩ := h
  obtain ⟨A, n, cap, xs, e, h⟩ := open_strs_cells hf hz
  simp only [List.cons.injEq, and_true] at e
  exact ⟨A, n, cap, xs, e, h⟩

theorem wAll_mem {P : Program} {e : TypeId} : ∀ {l : List (DataW H)} {d : DataW H}, d ∈ l → ∀ n ∈ d.weights P e, n ∈ DataW.weightsAll P e l
  | x :: l, d, h, n, hn => by
    simp only [DataW.weightsAll, List.mem_append]
    rcases List.mem_cons.1 h with rfl | h
    · exact .inl hn
    · exact .inr (wAll_mem h n hn)

/-- One node's cells. -/
theorem open_node_cells {fuel : Nat} {l : List Value} {y : DataW H × List MemPlace} (h : DataW.trod enc Try.prog W 0 sp held fuel 38 l = some y) (hz : ∀ x ∈ y.1.weights Try.prog 38, x ≤ RB) :
    ∃ x : GNode, l = x.cells ∧ x.Ok := by
  obtain ⟨xs, n, _, hx, hll, hlen, hg⟩ := DataW.trod_struct Try.underlying38 h
  rw [show Try.prog.cellsOf 38 = 6 by kernel_rfl] at hll
  match l, hll, xs, hlen with
  | [c0, c1, c2, c3, c4, c5], _, [y0, y1, y2, y3, y4, y5], _ =>
    subst hx
    simp only [DataW.weights, Try.underlying38, List.map_cons, List.map_nil, DataW.weightsEach, List.mem_append, List.append_nil] at hz
    have g0 : DataW.trod enc Try.prog W 0 sp held n 36 [c0] = some y0 := by simpa [show Try.prog.cellsOf 36 = 1 by kernel_rfl] using hg 0 _ rfl
    have g1 : DataW.trod enc Try.prog W 0 sp held n 9 [c1] = some y1 := by simpa [show Try.prog.cellsOf 9 = 1 by kernel_rfl] using hg 1 _ rfl
    have g2 : DataW.trod enc Try.prog W 0 sp held n 9 [c2] = some y2 := by simpa [show Try.prog.cellsOf 9 = 1 by kernel_rfl] using hg 2 _ rfl
    have g3 : DataW.trod enc Try.prog W 0 sp held n 4 [c3] = some y3 := by simpa [show Try.prog.cellsOf 4 = 1 by kernel_rfl] using hg 3 _ rfl
    have g4 : DataW.trod enc Try.prog W 0 sp held n 2 [c4] = some y4 := by simpa [show Try.prog.cellsOf 2 = 1 by kernel_rfl] using hg 4 _ rfl
    have g5 : DataW.trod enc Try.prog W 0 sp held n 3 [c5] = some y5 := by simpa [show Try.prog.cellsOf 3 = 1 by kernel_rfl] using hg 5 _ rfl
    have z1 : ∀ x ∈ y1.1.weights Try.prog 9, x ≤ RB := fun x hm => hz x (.inr (.inl hm))
    have z2 : ∀ x ∈ y2.1.weights Try.prog 9, x ≤ RB := fun x hm => hz x (.inr (.inr (.inl hm)))
    obtain ⟨a0, e0, rfl, i0⟩ := DataW.trod_int Try.underlying36 g0
    obtain ⟨a1, e1, rfl, i1⟩ := DataW.trod_string Try.underlying9 g1
    obtain ⟨a2, e2, rfl, i2⟩ := DataW.trod_string Try.underlying9 g2
    obtain ⟨a3, e3, rfl⟩ := DataW.trod_bool Try.underlying4 g3
    obtain ⟨a4, e4, rfl, i4⟩ := DataW.trod_int Try.underlying2 g4
    obtain ⟨a5, e5, rfl, i5⟩ := DataW.trod_int Try.underlying3 g5
    simp only [List.cons.injEq, and_true] at e0 e1 e2 e3 e4 e5
    subst e0 e1 e2 e3 e4 e5
    exact ⟨⟨a0, a1, a2, a3, a4, a5⟩, rfl, i64_of_wf i0, size_of_weights z1, size_of_weights z2, i64_of_wf i4, i64_of_wf i5⟩

theorem open_nodes_cells {fuel : Nat} {c : Value} {y : DataW H × List MemPlace} (h : DataW.trod enc Try.prog W 0 sp held fuel 22 [c] = some y) (hz : ∀ x ∈ y.1.weights Try.prog 22, x ≤ RB) :
    ∃ A n cap xs, [c] = [.slice A n cap] ∧ NodesArg W A n cap xs := by
  have hlt := DataW.trod_lt _ _ _ _ h
  rcases open_slice Try.underlying22 h with ⟨hcs, _⟩ | ⟨a, len, cap, m, fu, D, Pl, hcs, _, hl, hm, hmm, rfl, hel⟩
  · exact ⟨none, 0, 0, [], hcs, nodesArg_nil W⟩
  · have hlm : len ≤ m := by rw [hmm]; split <;> omega
    rw [show Try.prog.cellsOf 38 = 6 by kernel_rfl] at hel
    have each : ∀ i, i < len → ∃ x : GNode, x.Ok ∧ ∀ j u, x.cells[j]? = some u → W.cell? (a.add (i * 6 + j)) = some u := by
      intro i hi
      obtain ⟨cs', hcells, htr⟩ := hel i (by omega)
      obtain ⟨x, rfl, hok⟩ := open_node_cells htr (fun w hw => hz w (by
        simp only [DataW.weights, Try.underlying22, List.mem_cons, List.mem_append]
        exact .inr (.inl (wAll_mem (List.mem_map.2 ⟨i, List.mem_range.2 hi, rfl⟩) w hw))))
      obtain ⟨_, hcl, hat⟩ := World.cells?_some hcells
      refine ⟨x, hok, fun j u hj => ?_⟩
      have hj6 : j < 6 := by
        have := (List.getElem?_eq_some_iff.1 hj).1
        simpa [GNode.cells] using this
      have := hat j hj6
      rw [hj, Go.Deep.add_add] at this
      exact this
    obtain ⟨N, hN⟩ := choose_lt (α := GNode) each
    refine ⟨some a, len, cap, (List.range len).map N, hcs, nodesArg_mk (N := N) hl hm (fun h0 => ?_) (fun i hi => (hN i hi).2) (fun i hi => (hN i hi).1) ?_⟩
    · exact hlt (.cell a.block a.off) (by
        simp only [MemPlace.row, List.mem_append, List.mem_map, List.mem_range]
        exact .inl ⟨0, by rw [show Try.prog.cellsOf 38 = 6 by kernel_rfl]; omega, by simp⟩)
    · have := hz (len * 64 + (m - len) * 64) (by
        simp only [DataW.weights, Try.underlying22, List.mem_cons]
        refine .inl ?_
        rw [show Try.prog.bytesOf 38 = 64 by kernel_rfl, Nat.add_mul]
        simp)
      omega

theorem open_nodes {v : Value} {d : DataW H} {p : List MemPlace} (hv : Value.okWide Try.prog W r b0 22 v) (h : DataW.Trod enc Try.prog W 0 sp held 22 v d p) (hz : ∀ x ∈ d.weights Try.prog 22, x ≤ RB) :
    ∃ A n cap xs, v = .slice A n cap ∧ NodesArg W A n cap xs := by
  obtain ⟨A0, n0, c0, rfl⟩ := okWide_slice Try.underlying22 hv
  obtain ⟨fuel, hf⟩ := h
  obtain ⟨A, n, cap, xs, e, h⟩ := open_nodes_cells hf hz
  simp only [List.cons.injEq, and_true] at e
  exact ⟨A, n, cap, xs, e, h⟩

theorem open_time_cells {fuel : Nat} {c0 c1 : Value} {y : DataW H × List MemPlace} (h : DataW.trod enc Try.prog W 0 sp held fuel 25 [c0, c1] = some y) :
    ∃ (b : Bool) (a : Int), [c0, c1] = [.bool b, .int .i64 a] ∧ I64 a := by
  obtain ⟨xs, n, _, hx, _, hlen, hg⟩ := DataW.trod_struct Try.underlying25 h
  match xs, hlen with
  | [y0, y1], _ =>
    have g0 : DataW.trod enc Try.prog W 0 sp held n 4 [c0] = some y0 := by simpa [show Try.prog.cellsOf 4 = 1 by kernel_rfl] using hg 0 _ rfl
    have g1 : DataW.trod enc Try.prog W 0 sp held n 2 [c1] = some y1 := by simpa [show Try.prog.cellsOf 2 = 1 by kernel_rfl] using hg 1 _ rfl
    obtain ⟨b, e0, _⟩ := DataW.trod_bool Try.underlying4 g0
    obtain ⟨a, e1, _, i1⟩ := DataW.trod_int Try.underlying2 g1
    simp only [List.cons.injEq, and_true] at e0 e1
    subst e0 e1
    exact ⟨b, a, rfl, i64_of_wf i1⟩

theorem open_policy {v : Value} {d : DataW H} {p : List MemPlace} (hv : Value.okWide Try.prog W r b0 41 v) (h : DataW.Trod enc Try.prog W 0 sp held 41 v d p) (hz : ∀ x ∈ d.weights Try.prog 41, x ≤ RB) :
    ∃ (algsA : Option Addr) (algsn algsc : Nat) (algs : List ByteArray) (iss : ByteArray) (hasIss : Bool) (aud : ByteArray) (hasAud : Bool) (typ : ByteArray) (hasTyp : Bool) (leeway : Int) (needA : Option Addr) (needn needc : Nat) (need : List ByteArray), v = .agg #[.slice algsA algsn algsc, .string iss, .bool hasIss, .string aud, .bool hasAud, .string typ, .bool hasTyp, .int .i64 leeway, .slice needA needn needc] ∧
      StrsArg W algsA algsn algsc algs ∧ iss.size ≤ RB ∧ aud.size ≤ RB ∧ typ.size ≤ RB ∧ I64 leeway ∧ StrsArg W needA needn needc need := by
  obtain ⟨cs, rfl, hsz⟩ := okWide_struct Try.underlying41 hv
  obtain ⟨l⟩ := cs
  have hC : Try.prog.cellsOf 41 = 9 := by kernel_rfl
  match l, hsz.trans hC with
  | [c0, c1, c2, c3, c4, c5, c6, c7, c8], _ =>
    obtain ⟨fuel, hf⟩ := h
    obtain ⟨xs, n, _, hx, _, hlen, hg⟩ := DataW.trod_struct Try.underlying41 hf
    match xs, hlen with
    | [y0, y1, y2, y3, y4, y5, y6, y7, y8], _ =>
      simp only [Prod.mk.injEq, List.map_cons, List.map_nil] at hx
      obtain ⟨rfl, _⟩ := hx
      simp only [DataW.weights, Try.underlying41, List.map_cons, List.map_nil, DataW.weightsEach, List.mem_append, List.append_nil] at hz
      have g0 : DataW.trod enc Try.prog W 0 sp held n 23 [c0] = some y0 := by simpa [show Try.prog.cellsOf 23 = 1 by kernel_rfl, Value.cells] using hg 0 _ rfl
      have g1 : DataW.trod enc Try.prog W 0 sp held n 9 [c1] = some y1 := by simpa [show Try.prog.cellsOf 9 = 1 by kernel_rfl, Value.cells] using hg 1 _ rfl
      have g2 : DataW.trod enc Try.prog W 0 sp held n 4 [c2] = some y2 := by simpa [show Try.prog.cellsOf 4 = 1 by kernel_rfl, Value.cells] using hg 2 _ rfl
      have g3 : DataW.trod enc Try.prog W 0 sp held n 9 [c3] = some y3 := by simpa [show Try.prog.cellsOf 9 = 1 by kernel_rfl, Value.cells] using hg 3 _ rfl
      have g4 : DataW.trod enc Try.prog W 0 sp held n 4 [c4] = some y4 := by simpa [show Try.prog.cellsOf 4 = 1 by kernel_rfl, Value.cells] using hg 4 _ rfl
      have g5 : DataW.trod enc Try.prog W 0 sp held n 9 [c5] = some y5 := by simpa [show Try.prog.cellsOf 9 = 1 by kernel_rfl, Value.cells] using hg 5 _ rfl
      have g6 : DataW.trod enc Try.prog W 0 sp held n 4 [c6] = some y6 := by simpa [show Try.prog.cellsOf 4 = 1 by kernel_rfl, Value.cells] using hg 6 _ rfl
      have g7 : DataW.trod enc Try.prog W 0 sp held n 2 [c7] = some y7 := by simpa [show Try.prog.cellsOf 2 = 1 by kernel_rfl, Value.cells] using hg 7 _ rfl
      have g8 : DataW.trod enc Try.prog W 0 sp held n 23 [c8] = some y8 := by simpa [show Try.prog.cellsOf 23 = 1 by kernel_rfl, Value.cells] using hg 8 _ rfl
      have z0 : ∀ x ∈ y0.1.weights Try.prog 23, x ≤ RB := fun x hm => hz x (.inl hm)
      obtain ⟨algsA, algsn, algsc, algs, e0, i0⟩ := open_strs_cells g0 z0
      simp only [List.cons.injEq, and_true] at e0
      subst e0
      have z1 : ∀ x ∈ y1.1.weights Try.prog 9, x ≤ RB := fun x hm => hz x (.inr (.inl hm))
      obtain ⟨iss, e1, rfl, i1⟩ := DataW.trod_string Try.underlying9 g1
      simp only [List.cons.injEq, and_true] at e1
      subst e1
      have z2 : ∀ x ∈ y2.1.weights Try.prog 4, x ≤ RB := fun x hm => hz x (.inr (.inr (.inl hm)))
      obtain ⟨hasIss, e2, rfl⟩ := DataW.trod_bool Try.underlying4 g2
      simp only [List.cons.injEq, and_true] at e2
      subst e2
      have z3 : ∀ x ∈ y3.1.weights Try.prog 9, x ≤ RB := fun x hm => hz x (.inr (.inr (.inr (.inl hm))))
      obtain ⟨aud, e3, rfl, i3⟩ := DataW.trod_string Try.underlying9 g3
      simp only [List.cons.injEq, and_true] at e3
      subst e3
      have z4 : ∀ x ∈ y4.1.weights Try.prog 4, x ≤ RB := fun x hm => hz x (.inr (.inr (.inr (.inr (.inl hm)))))
      obtain ⟨hasAud, e4, rfl⟩ := DataW.trod_bool Try.underlying4 g4
      simp only [List.cons.injEq, and_true] at e4
      subst e4
      have z5 : ∀ x ∈ y5.1.weights Try.prog 9, x ≤ RB := fun x hm => hz x (.inr (.inr (.inr (.inr (.inr (.inl hm))))))
      obtain ⟨typ, e5, rfl, i5⟩ := DataW.trod_string Try.underlying9 g5
      simp only [List.cons.injEq, and_true] at e5
      subst e5
      have z6 : ∀ x ∈ y6.1.weights Try.prog 4, x ≤ RB := fun x hm => hz x (.inr (.inr (.inr (.inr (.inr (.inr (.inl hm)))))))
      obtain ⟨hasTyp, e6, rfl⟩ := DataW.trod_bool Try.underlying4 g6
      simp only [List.cons.injEq, and_true] at e6
      subst e6
      have z7 : ∀ x ∈ y7.1.weights Try.prog 2, x ≤ RB := fun x hm => hz x (.inr (.inr (.inr (.inr (.inr (.inr (.inr (.inl hm))))))))
      obtain ⟨leeway, e7, rfl, i7⟩ := DataW.trod_int Try.underlying2 g7
      simp only [List.cons.injEq, and_true] at e7
      subst e7
      have z8 : ∀ x ∈ y8.1.weights Try.prog 23, x ≤ RB := fun x hm => hz x (.inr (.inr (.inr (.inr (.inr (.inr (.inr (.inr (hm)))))))))
      obtain ⟨needA, needn, needc, need, e8, i8⟩ := open_strs_cells g8 z8
      simp only [List.cons.injEq, and_true] at e8
      subst e8
      exact ⟨algsA, algsn, algsc, algs, iss, hasIss, aud, hasAud, typ, hasTyp, leeway, needA, needn, needc, need, rfl, i0, size_of_weights z1, size_of_weights z3, size_of_weights z5, i64_of_wf i7, i8⟩


theorem open_claims {v : Value} {d : DataW H} {p : List MemPlace} (hv : Value.okWide Try.prog W r b0 27 v) (h : DataW.Trod enc Try.prog W 0 sp held 27 v d p) (hz : ∀ x ∈ d.weights Try.prog 27, x ≤ RB) :
    ∃ (valueA : Option Addr) (valuen valuec : Nat) (value : List GNode) (iss : ByteArray) (hasIss : Bool) (sub : ByteArray) (hasSub : Bool) (audA : Option Addr) (audn audc : Nat) (aud : List ByteArray) (hasAud : Bool) (jti : ByteArray) (hasJti : Bool) (expHas : Bool) (expAt : Int) (nbfHas : Bool) (nbfAt : Int) (iatHas : Bool) (iatAt : Int), v = .agg #[.slice valueA valuen valuec, .string iss, .bool hasIss, .string sub, .bool hasSub, .slice audA audn audc, .bool hasAud, .string jti, .bool hasJti, .bool expHas, .int .i64 expAt, .bool nbfHas, .int .i64 nbfAt, .bool iatHas, .int .i64 iatAt] ∧
      NodesArg W valueA valuen valuec value ∧ iss.size ≤ RB ∧ sub.size ≤ RB ∧ StrsArg W audA audn audc aud ∧ jti.size ≤ RB ∧ I64 expAt ∧ I64 nbfAt ∧ I64 iatAt := by
  obtain ⟨cs, rfl, hsz⟩ := okWide_struct Try.underlying27 hv
  obtain ⟨l⟩ := cs
  have hC : Try.prog.cellsOf 27 = 15 := by kernel_rfl
  match l, hsz.trans hC with
  | [c0, c1, c2, c3, c4, c5, c6, c7, c8, c9, c10, c11, c12, c13, c14], _ =>
    obtain ⟨fuel, hf⟩ := h
    obtain ⟨xs, n, _, hx, _, hlen, hg⟩ := DataW.trod_struct Try.underlying27 hf
    match xs, hlen with
    | [y0, y1, y2, y3, y4, y5, y6, y7, y8, y9, y10, y11], _ =>
      simp only [Prod.mk.injEq, List.map_cons, List.map_nil] at hx
      obtain ⟨rfl, _⟩ := hx
      simp only [DataW.weights, Try.underlying27, List.map_cons, List.map_nil, DataW.weightsEach, List.mem_append, List.append_nil] at hz
      have g0 : DataW.trod enc Try.prog W 0 sp held n 22 [c0] = some y0 := by simpa [show Try.prog.cellsOf 22 = 1 by kernel_rfl, Value.cells] using hg 0 _ rfl
      have g1 : DataW.trod enc Try.prog W 0 sp held n 9 [c1] = some y1 := by simpa [show Try.prog.cellsOf 9 = 1 by kernel_rfl, Value.cells] using hg 1 _ rfl
      have g2 : DataW.trod enc Try.prog W 0 sp held n 4 [c2] = some y2 := by simpa [show Try.prog.cellsOf 4 = 1 by kernel_rfl, Value.cells] using hg 2 _ rfl
      have g3 : DataW.trod enc Try.prog W 0 sp held n 9 [c3] = some y3 := by simpa [show Try.prog.cellsOf 9 = 1 by kernel_rfl, Value.cells] using hg 3 _ rfl
      have g4 : DataW.trod enc Try.prog W 0 sp held n 4 [c4] = some y4 := by simpa [show Try.prog.cellsOf 4 = 1 by kernel_rfl, Value.cells] using hg 4 _ rfl
      have g5 : DataW.trod enc Try.prog W 0 sp held n 23 [c5] = some y5 := by simpa [show Try.prog.cellsOf 23 = 1 by kernel_rfl, Value.cells] using hg 5 _ rfl
      have g6 : DataW.trod enc Try.prog W 0 sp held n 4 [c6] = some y6 := by simpa [show Try.prog.cellsOf 4 = 1 by kernel_rfl, Value.cells] using hg 6 _ rfl
      have g7 : DataW.trod enc Try.prog W 0 sp held n 9 [c7] = some y7 := by simpa [show Try.prog.cellsOf 9 = 1 by kernel_rfl, Value.cells] using hg 7 _ rfl
      have g8 : DataW.trod enc Try.prog W 0 sp held n 4 [c8] = some y8 := by simpa [show Try.prog.cellsOf 4 = 1 by kernel_rfl, Value.cells] using hg 8 _ rfl
      have g9 : DataW.trod enc Try.prog W 0 sp held n 25 [c9, c10] = some y9 := by simpa [show Try.prog.cellsOf 25 = 2 by kernel_rfl, Value.cells] using hg 9 _ rfl
      have g10 : DataW.trod enc Try.prog W 0 sp held n 25 [c11, c12] = some y10 := by simpa [show Try.prog.cellsOf 25 = 2 by kernel_rfl, Value.cells] using hg 10 _ rfl
      have g11 : DataW.trod enc Try.prog W 0 sp held n 25 [c13, c14] = some y11 := by simpa [show Try.prog.cellsOf 25 = 2 by kernel_rfl, Value.cells] using hg 11 _ rfl
      have z0 : ∀ x ∈ y0.1.weights Try.prog 22, x ≤ RB := fun x hm => hz x (.inl hm)
      obtain ⟨valueA, valuen, valuec, value, e0, i0⟩ := open_nodes_cells g0 z0
      simp only [List.cons.injEq, and_true] at e0
      subst e0
      have z1 : ∀ x ∈ y1.1.weights Try.prog 9, x ≤ RB := fun x hm => hz x (.inr (.inl hm))
      obtain ⟨iss, e1, rfl, i1⟩ := DataW.trod_string Try.underlying9 g1
      simp only [List.cons.injEq, and_true] at e1
      subst e1
      have z2 : ∀ x ∈ y2.1.weights Try.prog 4, x ≤ RB := fun x hm => hz x (.inr (.inr (.inl hm)))
      obtain ⟨hasIss, e2, rfl⟩ := DataW.trod_bool Try.underlying4 g2
      simp only [List.cons.injEq, and_true] at e2
      subst e2
      have z3 : ∀ x ∈ y3.1.weights Try.prog 9, x ≤ RB := fun x hm => hz x (.inr (.inr (.inr (.inl hm))))
      obtain ⟨sub, e3, rfl, i3⟩ := DataW.trod_string Try.underlying9 g3
      simp only [List.cons.injEq, and_true] at e3
      subst e3
      have z4 : ∀ x ∈ y4.1.weights Try.prog 4, x ≤ RB := fun x hm => hz x (.inr (.inr (.inr (.inr (.inl hm)))))
      obtain ⟨hasSub, e4, rfl⟩ := DataW.trod_bool Try.underlying4 g4
      simp only [List.cons.injEq, and_true] at e4
      subst e4
      have z5 : ∀ x ∈ y5.1.weights Try.prog 23, x ≤ RB := fun x hm => hz x (.inr (.inr (.inr (.inr (.inr (.inl hm))))))
      obtain ⟨audA, audn, audc, aud, e5, i5⟩ := open_strs_cells g5 z5
      simp only [List.cons.injEq, and_true] at e5
      subst e5
      have z6 : ∀ x ∈ y6.1.weights Try.prog 4, x ≤ RB := fun x hm => hz x (.inr (.inr (.inr (.inr (.inr (.inr (.inl hm)))))))
      obtain ⟨hasAud, e6, rfl⟩ := DataW.trod_bool Try.underlying4 g6
      simp only [List.cons.injEq, and_true] at e6
      subst e6
      have z7 : ∀ x ∈ y7.1.weights Try.prog 9, x ≤ RB := fun x hm => hz x (.inr (.inr (.inr (.inr (.inr (.inr (.inr (.inl hm))))))))
      obtain ⟨jti, e7, rfl, i7⟩ := DataW.trod_string Try.underlying9 g7
      simp only [List.cons.injEq, and_true] at e7
      subst e7
      have z8 : ∀ x ∈ y8.1.weights Try.prog 4, x ≤ RB := fun x hm => hz x (.inr (.inr (.inr (.inr (.inr (.inr (.inr (.inr (.inl hm)))))))))
      obtain ⟨hasJti, e8, rfl⟩ := DataW.trod_bool Try.underlying4 g8
      simp only [List.cons.injEq, and_true] at e8
      subst e8
      have z9 : ∀ x ∈ y9.1.weights Try.prog 25, x ≤ RB := fun x hm => hz x (.inr (.inr (.inr (.inr (.inr (.inr (.inr (.inr (.inr (.inl hm))))))))))
      obtain ⟨expHas, expAt, e9, i9⟩ := open_time_cells g9
      simp only [List.cons.injEq, and_true] at e9
      obtain ⟨rfl, rfl⟩ := e9
      have z10 : ∀ x ∈ y10.1.weights Try.prog 25, x ≤ RB := fun x hm => hz x (.inr (.inr (.inr (.inr (.inr (.inr (.inr (.inr (.inr (.inr (.inl hm)))))))))))
      obtain ⟨nbfHas, nbfAt, e10, i10⟩ := open_time_cells g10
      simp only [List.cons.injEq, and_true] at e10
      obtain ⟨rfl, rfl⟩ := e10
      have z11 : ∀ x ∈ y11.1.weights Try.prog 25, x ≤ RB := fun x hm => hz x (.inr (.inr (.inr (.inr (.inr (.inr (.inr (.inr (.inr (.inr (.inr (hm))))))))))))
      obtain ⟨iatHas, iatAt, e11, i11⟩ := open_time_cells g11
      simp only [List.cons.injEq, and_true] at e11
      obtain ⟨rfl, rfl⟩ := e11
      exact ⟨valueA, valuen, valuec, value, iss, hasIss, sub, hasSub, audA, audn, audc, aud, hasAud, jti, hasJti, expHas, expAt, nbfHas, nbfAt, iatHas, iatAt, rfl, i0, size_of_weights z1, size_of_weights z3, i5, size_of_weights z7, i9, i10, i11⟩



end
end Go.Proofs.Ytoafhhhnomnjiaa
