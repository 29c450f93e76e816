/-
  Words and small lemmas that all texts of this seat share: no program in sight.
-/
import Derived.WalkKit
import Derived.WalkLawsBesides
import Derived.BigQuiet
import Derived.Outline
import Derived.Lib.Hide
import Derived.Lib.LaidTab
import Derived.Deep.AppendLies
namespace Go.Proofs.Ytoafhhhnomnjiaa
open Go.RowKit

/-- A string's value from a list of bytes. -/
def bs (l : List UInt8) : ByteArray := ⟨l.toArray⟩

theorem returned_int {k : IntKind} {a b : Int} (h : a = b) : Ending.returned (.int k a) = .returned (.int k b) := by rw [h]
theorem returned_bool {a b : Bool} (h : a = b) : Ending.returned (.bool a) = .returned (.bool b) := by rw [h]

/-- An array by value, indexed by a number in range (elements of one cell). -/
theorem run_index_arr {P : Program} {T E : TypeId} {len : Nat} {cs : Array Value} {v : Value} {k : Nat} (hT : P.underlying T = some (.array len E)) (hE : (P.info? E).map (fun i => i.size) = some 1)
    (hagg : ∀ w, (isAgg E).run P w = .ok false w) (hk : k < len) (hv : cs[k]? = some v) (w : World) :
    (Instr.index T (.agg cs) (.int .i64 (k : Int))).run P w = .ok v w := by
  obtain ⟨i, hi, hs⟩ := Option.map_eq_some_iff.1 hE
  simp [Instr.index, asIntOf, run_underlying hT, sizeOf, typeInfo, hi, hs, part, hagg, hk, hv]

/-- Are two texts the same? (A word of its own: the walk does not open it.) -/
def sEq (a b : ByteArray) : Bool := decide (a = b)
theorem sEq_iff {a b : ByteArray} : sEq a b = true ↔ a = b := by simp [sEq]
theorem sEq_not {a b : ByteArray} : sEq a b = false ↔ a ≠ b := by simp [sEq]
theorem sEq_self (a : ByteArray) : sEq a a = true := by simp [sEq]
theorem toList_inj {a b : ByteArray} (h : a.toList = b.toList) : a = b := by
  rw [ByteArray.toList_eq, ByteArray.toList_eq] at h
  exact ByteArray.ext (Array.toList_inj.1 h)
theorem toList_beq (a b : ByteArray) : (a.toList == b.toList) = sEq a b := by
  rw [Bool.eq_iff_iff, beq_iff_eq, sEq_iff]
  exact ⟨toList_inj, fun h => by rw [h]⟩

theorem toList_beq_cons (a : ByteArray) (x : UInt8) (l : List UInt8) : (a.toList == x :: l) = sEq a (bs (x :: l)) := by
  rw [← toList_beq, ByteArray.toList_eq, ByteArray.toList_eq]
  rfl
theorem cons_beq_toList (a : ByteArray) (x : UInt8) (l : List UInt8) : (x :: l == a.toList) = sEq (bs (x :: l)) a := by
  rw [← toList_beq, ByteArray.toList_eq, ByteArray.toList_eq]
  rfl
theorem toList_isEmpty (a : ByteArray) : a.toList.isEmpty = sEq a (bs []) := by
  rw [← toList_beq, ByteArray.toList_eq, ByteArray.toList_eq, Bool.eq_iff_iff, List.isEmpty_iff, beq_iff_eq]
  rfl

/-- A table of texts, as the row's list has it: its cells. -/
theorem cells_of_strs {H : Type} {enc : TypeId × Value → H} {P : Program} {w : World} {base : Nat} {sp : Nat → Bool} {held : Bool} {fuel : Nat} {t e : TypeId} {n : Nat} {cs : List Value} {zs : List (List UInt8)} {p : List MemPlace}
    (ht : P.underlying t = some (.array n e)) (he : P.underlying e = some .string) (hce : P.cellsOf e = 1) (hct : P.cellsOf t = n)
    (h : DataW.trod enc P w base sp held fuel t cs = some (.agg (zs.map fun z => .lit (.string z)), p)) : cs = zs.map fun z => Value.string (bs z) := by
  cases fuel with
  | zero => simp [DataW.trod] at h
  | succ fuel =>
    simp only [DataW.trod, ht, hce, hct, Nat.mul_one] at h
    split at h
    · rename_i hl
      obtain ⟨xs, hm, hx⟩ := Option.map_eq_some_iff.1 h
      have hxs : xs.map (·.1) = zs.map fun z => (DataW.lit (.string z) : DataW H) := by
        have := congrArg Prod.fst hx
        simpa using this
      have hxl : xs.length = n := by simpa using Lib.mapM_length hm
      have hzl : zs.length = n := by
        have := congrArg List.length hxs
        simp at this
        omega
      apply List.ext_getElem?
      intro i
      by_cases hi : i < n
      · obtain ⟨b, hb, hf⟩ := Lib.mapM_at hm i i (by simp [hi])
        obtain ⟨z, hc, rfl, _⟩ := DataW.trod_string he hf
        have h1 : cs[i]? = some (.string z) := by
          have := congrArg (·[0]?) hc
          simpa [List.getElem?_take, List.getElem?_drop] using this
        have h2 : (xs.map (·.1))[i]? = some (DataW.lit (.string z.data.toList) : DataW H) := by simp [hb]
        rw [hxs] at h2
        simp only [List.getElem?_map, Option.map_eq_some_iff, DataW.lit.injEq, Lit.string.injEq] at h2
        obtain ⟨z', hz', rfl⟩ := h2
        simp only [h1, List.getElem?_map, hz', Option.map_some]
        rfl
      · rw [List.getElem?_eq_none (by omega), List.getElem?_eq_none (by simp; omega)]
    · cases h

/-- The first variable of a row's list: its block. -/
theorem laid_head {P : Program} {W : World} {name : String} {d : DataW Unit} {rest : List (String × DataW Unit)} {g : Nat} {t : TypeId}
    (hg : P.globalNamed name = some g) (hty : (P.globals[g]?).map (·.type) = some t) (h : laidMet P ((name, d) :: rest) W) :
    ∃ cs e fr base sp held fuel p, W.heap[g]? = some (.cells cs e fr) ∧ DataW.trod (fun _ => ()) P W base sp held fuel t cs.toList = some (d, p) := by
  obtain ⟨ps, ⟨g', t', cs, fuel, p, q, hg', ht', hvar, hd, _, _⟩, _⟩ := h
  obtain rfl := Option.some.inj (hg.symm.trans hg')
  obtain rfl := Option.some.inj (hty.symm.trans ht')
  simp only [World.var?, hg, Option.bind_some] at hvar
  split at hvar
  · rename_i cs' e fr hh
    obtain rfl := Option.some.inj hvar
    exact ⟨_, e, fr, _, _, _, fuel, p, hh, hd⟩
  · cases hvar

/-! Memory: rows of cells that a slice value leads to. -/

theorem u32_of_wf {a : Int} (h : (Lit.int .u32 a).wf = true) : 0 ≤ a ∧ a ≤ 4294967295 := by
  simp [Lit.wf, IntKind.min, IntKind.max, IntKind.signed, IntKind.bits] at h
  exact h

/-- The form's reach, behind a name that nothing opens. -/
def RB : Nat := reachBytes
theorem reach_eq : RB = 140737488351232 := rfl
attribute [irreducible] RB
theorem reach_of {x : Nat} (h : decide (x ≤ reachBytes) = true) : x ≤ RB := by
  have h2 := of_decide_eq_true h
  rw [reach_eq]
  exact h2

/-- An int64's range. -/
def I64 (a : Int) : Prop := -9223372036854775808 ≤ a ∧ a ≤ 9223372036854775807
theorem i64_of_wf {a : Int} (h : (Lit.int .i64 a).wf = true) : I64 a := by
  simp [Lit.wf, IntKind.min, IntKind.max, IntKind.signed, IntKind.bits] at h
  exact h

/-- The slice (A, n elements of size cells) leads to the cells xs, in a block below B. -/
def Row (w : World) (B : Nat) (A : Option Addr) (n size : Nat) (xs : List Value) : Prop :=
  xs.length = n * size ∧ (0 < n → ∃ b off, A = some ⟨b, off, none⟩ ∧ b < B ∧ ∀ j u, xs[j]? = some u → w.cell? ⟨b, off + j, none⟩ = some u)

section
variable {w w' : World} {B B' n size : Nat} {A : Option Addr} {xs : List Value}
theorem Row.nil : Row w B A 0 size [] := ⟨by simp, fun h => absurd h (by omega)⟩
theorem Row.keep (h : Row w B A n size xs) (hk : ∀ p : Addr, p.block < B → w'.cell? p = w.cell? p) : Row w' B A n size xs :=
  ⟨h.1, fun hn => by
    obtain ⟨b, off, e, hb, hc⟩ := h.2 hn
    exact ⟨b, off, e, hb, fun j u hu => (hk _ hb).trans (hc j u hu)⟩⟩
theorem Row.more (h : Row w B A n size xs) (hB : B ≤ B') : Row w B' A n size xs :=
  ⟨h.1, fun hn => by
    obtain ⟨b, off, e, hb, hc⟩ := h.2 hn
    exact ⟨b, off, e, by omega, hc⟩⟩
theorem Row.below (h : Row w B A n size xs) (hb : Below B w w') : Row w' B A n size xs := h.keep fun _ hp => hb.cell hp
theorem Row.of_own {base : Nat} {e : TypeId} {c : Nat} (h : w.ownsRow base e size (.slice A n c) n xs) : Row w w.heap.size A n size xs := by
  refine ⟨h.1, fun hn => ?_⟩
  rcases h.2 with ⟨_, h0⟩ | ⟨g, cap, cur, hv, _, hg, _, _, _, _⟩
  · omega
  · injection hv with hA
    subst hA
    refine ⟨g, 0, rfl, (Array.getElem?_eq_some_iff.1 hg).1, fun j u hu => ?_⟩
    have := h.cells (g := g) rfl j u hu
    have hadd : (⟨g, 0, none⟩ : Addr).add j = ⟨g, j, none⟩ := by unfold Addr.add; split <;> simp_all
    rw [hadd] at this
    rw [Nat.zero_add]
    exact this
end

/-- A list of texts. -/
def Strs (w : World) (B : Nat) (A : Option Addr) (n : Nat) (xs : List ByteArray) : Prop := Row w B A n 1 (xs.map Value.string)
/-- A list of texts that came in. -/
structure StrsArg (w : World) (A : Option Addr) (n c : Nat) (xs : List ByteArray) : Prop where
  row : Strs w w.heap.size A n xs
  len : n ≤ c
  reach : n * 16 ≤ RB
  cap : c ≤ maxLen
  short : ∀ s ∈ xs, s.size ≤ RB
  nil : A = none → c = 0

theorem strsArg_nil (W : World) : StrsArg W none 0 0 [] := ⟨Row.nil, Nat.le_refl _, by simp, by simp [maxLen], by simp, fun _ => rfl⟩
theorem strsArg_mk {W : World} {a : Addr} {len cap : Nat} {xs : List ByteArray} (hl : len ≤ cap) (hm : cap ≤ maxLen) (hlen : xs.length = len) (hb : 0 < len → a.block < W.heap.size)
    (hc : ∀ i s, xs[i]? = some s → W.cell? (a.add i) = some (.string s)) (hs : ∀ s ∈ xs, s.size ≤ RB) (hz : len * 16 ≤ RB) : StrsArg W (some a) len cap xs := by
  refine ⟨⟨by simp [hlen], fun h0 => ?_⟩, hl, hz, hm, hs, nofun⟩
  obtain ⟨b, off, spot⟩ := a
  have h1 : xs[0]? = some (xs[0]'(by omega)) := List.getElem?_eq_getElem (by omega)
  have hsp : spot = none := by simpa [Addr.add] using World.cell?_spot (hc 0 _ h1)
  subst hsp
  refine ⟨b, off, rfl, hb h0, fun j u hu => ?_⟩
  rw [List.getElem?_map, Option.map_eq_some_iff] at hu
  obtain ⟨s, hs1, rfl⟩ := hu
  have := hc j s hs1
  have hadd : (⟨b, off, none⟩ : Addr).add j = ⟨b, off + j, none⟩ := by unfold Addr.add; split <;> simp_all
  rw [hadd] at this
  exact this

theorem StrsArg.keep {W W' : World} {A : Option Addr} {n c : Nat} {xs : List ByteArray} (h : StrsArg W A n c xs) (hb : Below W.heap.size W W') : StrsArg W' A n c xs :=
  ⟨(h.row.below hb).more hb.size, h.len, h.reach, h.cap, h.short, h.nil⟩

/-- A JSON node's parts. -/
structure GNode where
  kind : Int
  key : ByteArray
  text : ByteArray
  whole : Bool
  int : Int
  kids : Int
def GNode.cells (n : GNode) : List Value := [.int .i64 n.kind, .string n.key, .string n.text, .bool n.whole, .int .i64 n.int, .int .i64 n.kids]
/-- Its numbers are in range, its texts within the reach. -/
structure GNode.Ok (n : GNode) : Prop where
  kind : I64 n.kind
  key : n.key.size ≤ RB
  text : n.text.size ≤ RB
  int : I64 n.int
  kids : I64 n.kids
def Nodes (w : World) (B : Nat) (A : Option Addr) (n : Nat) (xs : List GNode) : Prop := Row w B A n 6 (xs.flatMap GNode.cells)
structure NodesArg (w : World) (A : Option Addr) (n c : Nat) (xs : List GNode) : Prop where
  row : Nodes w w.heap.size A n xs
  length : xs.length = n
  len : n ≤ c
  reach : n * 64 ≤ RB
  cap : c ≤ maxLen
  ok : ∀ x ∈ xs, x.Ok
  nil : A = none → c = 0

theorem nodesArg_nil (W : World) : NodesArg W none 0 0 [] := ⟨Row.nil, rfl, Nat.le_refl _, by simp, by simp [maxLen], by simp, fun _ => rfl⟩
theorem NodesArg.keep {W W' : World} {A : Option Addr} {n c : Nat} {xs : List GNode} (h : NodesArg W A n c xs) (hb : Below W.heap.size W W') : NodesArg W' A n c xs :=
  ⟨(h.row.below hb).more hb.size, h.length, h.len, h.reach, h.cap, h.ok, h.nil⟩
theorem GNode.cells_length (x : GNode) : x.cells.length = 6 := rfl
instance : Inhabited GNode := ⟨⟨0, bs [], bs [], false, 0, 0⟩⟩

theorem flatMap_length {α : Type} {f : α → List Value} {k : Nat} (hf : ∀ x, (f x).length = k) : ∀ (l : List α), (l.flatMap f).length = l.length * k
  | [] => by simp
  | x :: l => by rw [List.flatMap_cons, List.length_append, hf, flatMap_length hf l, List.length_cons, Nat.add_mul]; omega
/-- The cell j of element i of rows of k cells each. -/
theorem flatMap_at {α : Type} {f : α → List Value} {k : Nat} (hf : ∀ x, (f x).length = k) : ∀ (l : List α) (i j : Nat) (x : α), l[i]? = some x → j < k → (l.flatMap f)[i * k + j]? = (f x)[j]?
  | [], i, j, x, h, _ => by simp at h
  | y :: l, 0, j, x, h, hj => by
    simp only [List.getElem?_cons_zero, Option.some.injEq] at h
    subst h
    rw [List.flatMap_cons, List.getElem?_append_left (by rw [hf]; omega)]
    simp
  | y :: l, i + 1, j, x, h, hj => by
    simp only [List.getElem?_cons_succ] at h
    rw [List.flatMap_cons, List.getElem?_append_right (by rw [hf, Nat.add_mul]; omega), hf, ← flatMap_at hf l i j x h hj]
    congr 1
    rw [Nat.add_mul]
    omega
/-- Which element and which of its cells a place of such a row is. -/
theorem flatMap_inv {α : Type} {f : α → List Value} {k : Nat} (hf : ∀ x, (f x).length = k) (hk : 0 < k) (l : List α) (p : Nat) (u : Value) (h : (l.flatMap f)[p]? = some u) : ∃ x, l[p / k]? = some x ∧ (f x)[p % k]? = some u := by
  have hp : p < l.length * k := by
    have := (List.getElem?_eq_some_iff.1 h).1
    rwa [flatMap_length hf] at this
  have hi : p / k < l.length := (Nat.div_lt_iff_lt_mul hk).2 hp
  refine ⟨l[p / k], List.getElem?_eq_getElem hi, ?_⟩
  rw [← flatMap_at hf l (p / k) (p % k) _ (List.getElem?_eq_getElem hi) (Nat.mod_lt _ hk), ← h]
  congr 1
  rw [Nat.mul_comm]
  exact Nat.div_add_mod p k

theorem nodesArg_mk {W : World} {a : Addr} {len cap : Nat} {N : Nat → GNode} (hl : len ≤ cap) (hm : cap ≤ maxLen) (hb : 0 < len → a.block < W.heap.size)
    (hc : ∀ i, i < len → ∀ j u, (N i).cells[j]? = some u → W.cell? (a.add (i * 6 + j)) = some u) (hok : ∀ i, i < len → (N i).Ok) (hz : len * 64 ≤ RB) : NodesArg W (some a) len cap ((List.range len).map N) := by
  refine ⟨⟨by rw [flatMap_length GNode.cells_length]; simp, fun h0 => ?_⟩, by simp, hl, hz, hm, fun x hx => ?_, nofun⟩
  · obtain ⟨b, off, spot⟩ := a
    have hsp : spot = none := by simpa [Addr.add] using World.cell?_spot (hc 0 h0 0 _ rfl)
    subst hsp
    refine ⟨b, off, rfl, hb h0, fun p u hu => ?_⟩
    obtain ⟨x, hx, hu2⟩ := flatMap_inv GNode.cells_length (by omega) _ p u hu
    have hi : p / 6 < len := by
      have := (List.getElem?_eq_some_iff.1 hx).1
      simpa using this
    simp only [List.getElem?_map, List.getElem?_range hi, Option.map_some, Option.some.injEq] at hx
    subst hx
    have := hc _ hi _ u hu2
    have hadd : (⟨b, off, none⟩ : Addr).add (p / 6 * 6 + p % 6) = ⟨b, off + p, none⟩ := by
      rw [Nat.mul_comm, Nat.div_add_mod]
      unfold Addr.add; split <;> simp_all
    rw [hadd] at this
    exact this
  · simp only [List.mem_map, List.mem_range] at hx
    obtain ⟨i, hi, rfl⟩ := hx
    exact hok i hi

/-! Rows that the call owns: one element more. -/

theorem take_snoc {α : Type} (l : List α) (k : Nat) (h : k < l.length) : l.take (k + 1) = l.take k ++ [l[k]] := by
  rw [List.take_succ_eq_append_getElem h]

/-- One element of one cell appended ('out = append(out, x)'): the element lies in a block of its own, the newest. -/
theorem wpList_append_one {P : Program} {w : World} {ops : Array Oper} {rest : List Oper} {o : Oper} {a : Act} {Q : Exit → Act → World → Prop} (hgd : o.guard = none) (s x : Operand) (t : TypeId)
    (ho : o.op = .call { callee := .builtin .append, args := #[s, x], argTypes := #[t, t] })
    (base : Nat) (e : TypeId) (z : Value) (bytes : Nat) (ht : P.underlying t = some (.slice e)) (hinfo : (P.info? e).map (fun i => (i.zero, i.size, i.bytes)) = some (some z, 1, bytes)) (hzs : z.cells.size = 1)
    (v : Value) (n : Nat) (xs : List Value) (hs : a.eval s = v) (hown : w.ownsRow base e 1 v n xs)
    (u : Value) (hx : a.eval x = .slice (some ⟨w.heap.size, 0, none⟩) 1 1) (h1 : u.oneCell' = true)
    (hbytes : (n + 1) * bytes ≤ 140737488355328) (h63 : n + 1 ≤ maxLen) (hbase : base ≤ w.heap.size)
    (h : ∀ v' w', w'.ownsRow base e 1 v' (n + 1) (xs ++ [u]) → w.grownBy w' v.ownBlock → (v'.ownBlock = v.ownBlock ∨ v'.ownBlock = some (w.heap.size + 1)) → (∃ g c, v' = .slice (some ⟨g, 0, none⟩) (n + 1) c) → wpList P ops Q rest (a.put o.dst v') w') :
    wpList P ops Q (o :: rest) a (w.alloc (.cells #[u] e)) := by
  obtain ⟨i, hi, hz0, hz1, hz2⟩ := info_parts hinfo
  refine wpList_append_lies _ hgd s x t ho base e i z 1 bytes ht hi hz0 hz1 hz2 hzs (by omega) v n xs hs (hown.alloc _) ⟨w.heap.size, 0, none⟩ 1 1 [u] hx rfl ?_ (by simpa using h1) (by omega) h63 hbytes (by simp; omega) (w.heap.size + 1) (by simp) ?_
  · intro j y hy
    match j, hy with
    | 0, hy =>
      simp only [List.getElem?_cons_zero, Option.some.injEq] at hy
      subst hy
      rw [show (⟨w.heap.size, 0, none⟩ : Addr).add 0 = ⟨w.heap.size, 0, none⟩ from rfl, cell_of_row _ _ 0 _ _ _ (heap_alloc_new w _)]
      rfl
    | j + 1, hy => simp at hy
  · intro g cap w' h2 h3 h4 h5
    have hgb : w.grownBy w' v.ownBlock := ⟨h3.os, h3.tape, h3.output, Nat.le_trans (by simp) h3.size, fun k hk hne => (h3.block k (by simp; omega) hne).trans (heap_alloc_old w _ hk)⟩
    refine h _ w' h2 hgb ?_ ⟨g, cap, rfl⟩
    rcases h4 with h4 | h4
    · exact .inl (by rw [h4]; rfl)
    · exact .inr (by rw [← h4]; rfl)

/-- The words that a relation over an owned row hands on. -/
theorem below_grown {B : Nat} {a w w' : World} {v : Value} {e : TypeId} {size n : Nat} {xs : List Value} (h : Below B a w) (hg : w.grownBy w' v.ownBlock) (hB : B ≤ w.heap.size) (hown : w.ownsRow B e size v n xs) : Below B a w' :=
  h.grown hg hB fun k hk => (hown.lt k hk).1

theorem own_cap {w : World} {base : Nat} {e : TypeId} {size n : Nat} {v : Value} {xs : List Value} (h : w.ownsRow base e size v n xs) (hv : ∃ g c, v = .slice (some ⟨g, 0, none⟩) n c) : ∃ g c, v = .slice (some ⟨g, 0, none⟩) n c ∧ n ≤ c := by
  obtain ⟨g, c, rfl⟩ := hv
  refine ⟨g, c, rfl, ?_⟩
  rcases h.2 with ⟨h, _⟩ | ⟨g', cap, cur, h, _, _, hnc, _⟩
  · cases h
  · injection h with _ _ h3
    omega

theorem Row.all {w w' : World} {B n size : Nat} {A : Option Addr} {xs : List Value} (h : Row w B A n size xs) (hb : Below w.heap.size w w') (hB : B ≤ w.heap.size) : Row w' B A n size xs := h.keep fun p hp => hb.cell (by omega)
theorem own_below {w w' : World} {base : Nat} {e : TypeId} {size n : Nat} {v : Value} {xs : List Value} (h : w.ownsRow base e size v n xs) (hb : Below w.heap.size w w') : w'.ownsRow base e size v n xs := by
  refine ⟨h.1, ?_⟩
  rcases h.2 with h2 | ⟨g, cap, cur, hv, hg, hh, r⟩
  · exact .inl h2
  · exact .inr ⟨g, cap, cur, hv, hg, (hb.block g (Array.getElem?_eq_some_iff.1 hh).1).trans hh, r⟩
theorem below_drewN {B : Nat} {a w : World} (h : Below B a w) (n : Nat) : Below B a (w.drewN n) := ⟨h.os, h.tape, h.output, h.size, h.block⟩
/-- The cells of an owned row. -/
theorem own_cell {w : World} {base : Nat} {e : TypeId} {size n g cap : Nat} {xs : List Value} (h : w.ownsRow base e size (.slice (some ⟨g, 0, none⟩) n cap) n xs) (j : Nat) (u : Value) (hu : xs[j]? = some u) : w.cell? ⟨g, j, none⟩ = some u := by
  have := h.cells (g := g) rfl j u hu
  have hadd : (⟨g, 0, none⟩ : Addr).add j = ⟨g, j, none⟩ := by unfold Addr.add; split <;> simp_all
  rwa [hadd] at this

/-- Two new blocks. -/
theorem two_new (w : World) (c1 c2 : Array Value) (t1 t2 : TypeId) :
    ((w.alloc (.cells c1 t1)).alloc (.cells c2 t2)).heap[w.heap.size]? = some (.cells c1 t1 (0, 0)) ∧ ((w.alloc (.cells c1 t1)).alloc (.cells c2 t2)).heap[w.heap.size + 1]? = some (.cells c2 t2 (0, 0)) ∧
      ((w.alloc (.cells c1 t1)).alloc (.cells c2 t2)).heap.size = w.heap.size + 2 := by
  refine ⟨?_, ?_, by simp⟩
  · rw [heap_alloc_old _ _ (by simp)]
    exact heap_alloc_new w _
  · have := heap_alloc_new (w.alloc (.cells c1 t1)) (.cells c2 t2)
    simpa using this

/-! Blocks that are known whole. -/

def Blk (w : World) (g : Nat) (t : TypeId) (cs : Array Value) : Prop := w.heap[g]? = some (.cells cs t (0, 0))
section
variable {w w' : World} {g : Nat} {t : TypeId} {cs : Array Value}
theorem Blk.lt (h : Blk w g t cs) : g < w.heap.size := (Array.getElem?_eq_some_iff.1 h).1
theorem Blk.at_ (h : Blk w g t cs) (i : Nat) (v : Value) (hv : cs[i]? = some v) : w.cell? ⟨g, i, none⟩ = some v := by rw [cell_of_row _ _ _ _ _ _ h, hv]
theorem Blk.frz (h : Blk w g t cs) (i : Nat) : w.frozen? ⟨g, i, none⟩ = false := frozen_of_row w g i cs t h
theorem Blk.keep (h : Blk w g t cs) (hb : Below w.heap.size w w') : Blk w' g t cs := (hb.block g h.lt).trans h
theorem Blk.upto {B : Nat} (h : Blk w g t cs) (hb : Below B w w') (hg : g < B) : Blk w' g t cs := (hb.block g hg).trans h
theorem Blk.new (w : World) (t : TypeId) (cs : Array Value) : Blk (w.alloc (.cells cs t)) w.heap.size t cs := heap_alloc_new w _
theorem Blk.alloc (h : Blk w g t cs) (o : Obj) : Blk (w.alloc o) g t cs := (heap_alloc_old w o h.lt).trans h
theorem Blk.put_ (h : Blk w g t cs) (i : Nat) (u : Value) : Blk (w.setCell ⟨g, i, none⟩ u) g t (cs.setIfInBounds i u) := heap_setCell_same w g i cs t u h
theorem Blk.far (h : Blk w g t cs) (p : Addr) (hp : g ≠ p.block) (u : Value) : Blk (w.setCell p u) g t cs := (Below.heap_setCell w p u g hp).trans h
theorem Blk.grown {row : Option Nat} (h : Blk w g t cs) (hb : w.grownBy w' row) (hg : some g ≠ row) : Blk w' g t cs := (hb.block g h.lt hg).trans h
end
/-- An owned row while another block is written. -/
theorem own_far {w : World} {base : Nat} {e : TypeId} {size n g c : Nat} {xs : List Value} (h : w.ownsRow base e size (.slice (some ⟨g, 0, none⟩) n c) n xs) (p : Addr) (hp : g ≠ p.block) (u : Value) : (w.setCell p u).ownsRow base e size (.slice (some ⟨g, 0, none⟩) n c) n xs := by
  refine ⟨h.1, ?_⟩
  rcases h.2 with h2 | ⟨g', cap, cur, hv, hg, hh, r⟩
  · exact .inl h2
  · injection hv with hv1 hv2 hv3
    injection hv1 with hv1
    injection hv1 with hv1
    subst hv1
    exact .inr ⟨g, cap, cur, by rw [hv3], hg, (Below.heap_setCell w p u g hp).trans hh, r⟩
theorem own_lt {w : World} {base : Nat} {e : TypeId} {size n g c : Nat} {xs : List Value} (h : w.ownsRow base e size (.slice (some ⟨g, 0, none⟩) n c) n xs) : base ≤ g ∧ g < w.heap.size := h.lt g rfl
theorem own_base {w : World} {base base' : Nat} {e : TypeId} {size n : Nat} {v : Value} {xs : List Value} (h : w.ownsRow base e size v n xs) (hb : base' ≤ base) : w.ownsRow base' e size v n xs := by
  refine ⟨h.1, ?_⟩
  rcases h.2 with h2 | ⟨g, cap, cur, hv, hg, r⟩
  · exact .inl h2
  · exact .inr ⟨g, cap, cur, hv, Nat.le_trans hb hg, r⟩
theorem size_set (w : World) (p : Addr) (u : Value) : (w.setCell p u).heap.size = w.heap.size := by simp [World.setCell]
/-- Three new blocks. -/
theorem three_new (w : World) (c1 c2 c3 : Array Value) (t1 t2 t3 : TypeId) {w' : World} (hb : Below (((w.alloc (.cells c1 t1)).alloc (.cells c2 t2)).alloc (.cells c3 t3)).heap.size (((w.alloc (.cells c1 t1)).alloc (.cells c2 t2)).alloc (.cells c3 t3)) w') :
    Blk w' w.heap.size t1 c1 ∧ Blk w' (w.heap.size + 1) t2 c2 ∧ Blk w' (w.heap.size + 1 + 1) t3 c3 ∧ w.heap.size + 1 + 1 + 1 ≤ w'.heap.size ∧ Below w.heap.size w w' := by
  have h1 := ((Blk.new w t1 c1).alloc (.cells c2 t2)).alloc (.cells c3 t3)
  have h2 := (Blk.new (w.alloc (.cells c1 t1)) t2 c2).alloc (.cells c3 t3)
  have h3 := Blk.new ((w.alloc (.cells c1 t1)).alloc (.cells c2 t2)) t3 c3
  have hs := hb.size
  simp only [World.size_alloc] at h2 h3 hs
  exact ⟨h1.keep hb, h2.keep hb, h3.keep hb, hs, ((((Below.refl _ _).alloc (Nat.le_refl _) _).alloc (by simp) _).alloc (by simp; omega) _).trans (hb.mono (by simp; omega))⟩

/-! A region that draws its order, whose operations read and whose callees leave what was there: one walk in the order of the text. The worlds: those in which all that was there is as it was. -/

structure Ext (w : World) where
  wd : World
  below : Below w.heap.size w wd
instance Ext.nonempty (w : World) : Nonempty (Ext w) := ⟨⟨w, Below.refl _ _⟩⟩
theorem Ext.cell {w : World} {p : Addr} {v : Value} (h : w.cell? p = some v) (x : Ext w) : x.wd.cell? p = some v := (x.below.cell (World.block_lt_of_cell? w p h)).trans h
theorem Ext.calls {P : Program} {f : FuncId} {args : Array Value} {w : World} {v : Value} (x : Ext w) (h : Calls P f args x.wd fun e w' => e = .returned v ∧ Below x.wd.heap.size x.wd w') :
    Calls P f args x.wd fun e w'' => e = .returned v ∧ ∃ y : Ext w, w'' = y.wd :=
  h.mono fun _ w'' ⟨he, hb⟩ => ⟨he, ⟨w'', x.below.trans (hb.mono x.below.size)⟩, rfl⟩
theorem Ext.calls_same {P : Program} {f : FuncId} {args : Array Value} {w : World} {v : Value} (x : Ext w) (h : Calls P f args x.wd fun e w' => e = .returned v ∧ x.wd = w') :
    Calls P f args x.wd fun e w'' => e = .returned v ∧ ∃ y : Ext w, w'' = y.wd :=
  h.mono fun _ _ ⟨he, hb⟩ => ⟨he, x, hb.symm⟩
theorem wp_region_ext {P : Program} {id : Nat} {Q : Exit → Act → World → Prop} {a : Act} {w : World} {l : List Oper} (hm : P.follows .mixedOrders = true) (hB : Region.lexB .any l.toArray = true)
    (h : wpQuiet P l.toArray (fun w' => ∃ x : Ext w, w' = x.wd) (fun a' => ∀ w', Below w.heap.size w w' → Q .normal a' w') l a) : (Code.region id l.toArray true).wp P Q a w := by
  refine wp_region_any hm (wpAny_of_quiet (C := fun w' => ∃ x : Ext w, w' = x.wd) (Q := fun a' => ∀ w', Below w.heap.size w w' → Q .normal a' w') (fun _ w' hw' h => ?_) _ _ _ _ ⟨⟨w.drew, (Below.refl _ _).drew⟩, rfl⟩ ?_)
  · obtain ⟨x, rfl⟩ := hw'
    exact h _ x.below
  · have hB' := hB
    simp only [Region.lexB, Bool.and_eq_true] at hB'
    have := wpAnyQ_lex (C := fun w' => ∃ x : Ext w, w' = x.wd) (md := .any) hB'.1 l.toArray.toList 0 (Array.replicate l.toArray.size false) a (by simp) (by simpa using hB'.2) (by simpa using h)
    simpa using this

end Go.Proofs.Ytoafhhhnomnjiaa
