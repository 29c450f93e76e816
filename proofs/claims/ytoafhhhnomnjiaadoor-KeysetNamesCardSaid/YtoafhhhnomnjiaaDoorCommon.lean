/-
  Words and small lemmas that all texts of this seat share: no program in sight.
-/
import Derived.WalkKit
import Derived.WalkLawsBesides
import Derived.BigQuiet
import Derived.Outline
import Derived.Lib.Hide
import Derived.Lib.LaidTab
namespace Go.Proofs.YtoafhhhnomnjiaaDoor
open Go.RowKit

/-- A string's value from a list of bytes. -/
def bs (l : List UInt8) : ByteArray := ⟨l.toArray⟩

theorem returned_int {k : IntKind} {a b : Int} (h : a = b) : Ending.returned (.int k a) = .returned (.int k b) := by rw [h]
theorem returned_bool {a b : Bool} (h : a = b) : Ending.returned (.bool a) = .returned (.bool b) := by rw [h]

/-- An array by value, indexed by a number in range (elements of one cell). -/
theorem run_index_arr {P : Program} {T E : TypeId} {len : Nat} {cs : Array Value} {v : Value} {k : Nat} (hT : P.underlying T = some (.array len E)) (hE : (P.info? E).map (fun i => i.size) = some 1)
    (hagg : ∀ w, (isAgg E).run P w = .ok false w) (hk : k < len) (hv : cs[k]? = some v) (w : World) :
    (Instr.index T (.agg cs) (.int .i64 (k : Int))).run P w = .ok v w := by
  obtain ⟨i, hi, hs⟩ := Option.map_eq_some_iff.1 hE
  simp [Instr.index, asIntOf, run_underlying hT, sizeOf, typeInfo, hi, hs, part, hagg, hk, hv]

/-- Are two texts the same? (A word of its own: the walk does not open it.) -/
def sEq (a b : ByteArray) : Bool := decide (a = b)
theorem sEq_iff {a b : ByteArray} : sEq a b = true ↔ a = b := by simp [sEq]
theorem sEq_not {a b : ByteArray} : sEq a b = false ↔ a ≠ b := by simp [sEq]
theorem sEq_self (a : ByteArray) : sEq a a = true := by simp [sEq]
theorem toList_inj {a b : ByteArray} (h : a.toList = b.toList) : a = b := by
  rw [ByteArray.toList_eq, ByteArray.toList_eq] at h
  exact ByteArray.ext (Array.toList_inj.1 h)
theorem toList_beq (a b : ByteArray) : (a.toList == b.toList) = sEq a b := by
  rw [Bool.eq_iff_iff, beq_iff_eq, sEq_iff]
  exact ⟨toList_inj, fun h => by rw [h]⟩

/-- A table of texts, as the row's list has it: its cells. -/
theorem cells_of_strs {H : Type} {enc : TypeId × Value → H} {P : Program} {w : World} {base : Nat} {sp : Nat → Bool} {held : Bool} {fuel : Nat} {t e : TypeId} {n : Nat} {cs : List Value} {zs : List (List UInt8)} {p : List MemPlace}
    (ht : P.underlying t = some (.array n e)) (he : P.underlying e = some .string) (hce : P.cellsOf e = 1) (hct : P.cellsOf t = n)
    (h : DataW.trod enc P w base sp held fuel t cs = some (.agg (zs.map fun z => .lit (.string z)), p)) : cs = zs.map fun z => Value.string (bs z) := by
  cases fuel with
  | zero => simp [DataW.trod] at h
  | succ fuel =>
    simp only [DataW.trod, ht, hce, hct, Nat.mul_one] at h
    split at h
    · rename_i hl
      obtain ⟨xs, hm, hx⟩ := Option.map_eq_some_iff.1 h
      have hxs : xs.map (·.1) = zs.map fun z => (DataW.lit (.string z) : DataW H) := by
        have := congrArg Prod.fst hx
        simpa using this
      have hxl : xs.length = n := by simpa using Lib.mapM_length hm
      have hzl : zs.length = n := by
        have := congrArg List.length hxs
        simp at this
        omega
      apply List.ext_getElem?
      intro i
      by_cases hi : i < n
      · obtain ⟨b, hb, hf⟩ := Lib.mapM_at hm i i (by simp [hi])
        obtain ⟨z, hc, rfl, _⟩ := DataW.trod_string he hf
        have h1 : cs[i]? = some (.string z) := by
          have := congrArg (·[0]?) hc
          simpa [List.getElem?_take, List.getElem?_drop] using this
        have h2 : (xs.map (·.1))[i]? = some (DataW.lit (.string z.data.toList) : DataW H) := by simp [hb]
        rw [hxs] at h2
        simp only [List.getElem?_map, Option.map_eq_some_iff, DataW.lit.injEq, Lit.string.injEq] at h2
        obtain ⟨z', hz', rfl⟩ := h2
        simp only [h1, List.getElem?_map, hz', Option.map_some]
        rfl
      · rw [List.getElem?_eq_none (by omega), List.getElem?_eq_none (by simp; omega)]
    · cases h

/-- The first variable of a row's list: its block. -/
theorem laid_head {P : Program} {W : World} {name : String} {d : DataW Unit} {rest : List (String × DataW Unit)} {g : Nat} {t : TypeId}
    (hg : P.globalNamed name = some g) (hty : (P.globals[g]?).map (·.type) = some t) (h : laidMet P ((name, d) :: rest) W) :
    ∃ cs e fr base sp held fuel p, W.heap[g]? = some (.cells cs e fr) ∧ DataW.trod (fun _ => ()) P W base sp held fuel t cs.toList = some (d, p) := by
  obtain ⟨ps, ⟨g', t', cs, fuel, p, q, hg', ht', hvar, hd, _, _⟩, _⟩ := h
  obtain rfl := Option.some.inj (hg.symm.trans hg')
  obtain rfl := Option.some.inj (hty.symm.trans ht')
  simp only [World.var?, hg, Option.bind_some] at hvar
  split at hvar
  · rename_i cs' e fr hh
    obtain rfl := Option.some.inj hvar
    exact ⟨_, e, fr, _, _, _, fuel, p, hh, hd⟩
  · cases hvar

end Go.Proofs.YtoafhhhnomnjiaaDoor
