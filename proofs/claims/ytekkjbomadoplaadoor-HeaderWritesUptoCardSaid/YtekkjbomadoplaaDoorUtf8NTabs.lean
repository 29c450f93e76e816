/-
 The two tables of unicode/utf8 and the algorithms' names, as a row lists them.
-/
import Derived.Test.YtekkjbomadoplaaDoorEngO
import Derived.Test.YtekkjbomadoplaaDoorProg
import Derived.Test.YtekkjbomadoplaaDoorRows
import Derived.Lib.LaidU8
import Derived.Shelf.Lay
import Derived.Ground.NamesProg
namespace Go.Proofs
open Go.Shelf

shelf_lay Lays.n260 Nm 260 at Tryd as Tryd.laysSlow
end Go.Proofs
namespace Go.Proofs.YtekkjbomadoplaaDoor
open Go.Eng Go.Shelf
set_option linter.unusedVariables false

theorem first_data : (Rows.laid_unicode_utf8_first : DataW Unit) = Lib.firstData := by kernel_rfl
theorem accept_data : (Rows.laid_unicode_utf8_acceptRanges : DataW Unit) = Lib.acceptData := by kernel_rfl
/-- A table of texts: its cells. -/
theorem cells_strs {H : Type} {enc : TypeId × Value → H} {P : Program} {w : World} {base : Nat} {sp : Nat → Bool} {held : Bool} {fuel : Nat} {t e : TypeId} {n : Nat} {cs : List Value} {zs : List (List UInt8)} {p : List MemPlace}
  (ht : P.underlying t = some (.array n e)) (he : P.underlying e = some .string) (hce : P.cellsOf e = 1) (hct : P.cellsOf t = n)
  (h : DataW.trod enc P w base sp held fuel t cs = some (.agg (zs.map fun z => .lit (.string z)), p)) : cs = zs.map fun z => Value.string ⟨z.toArray⟩ := by
 cases fuel with
 | zero => simp [DataW.trod] at h
 | succ fuel =>
  simp only [DataW.trod, ht, hce, hct, Nat.mul_one] at h
  split at h
  ·rename_i hl
   obtain ⟨xs, hm, hx⟩ := Option.map_eq_some_iff.1 h
   have hxs : xs.map (·.1) = zs.map fun z => (DataW.lit (.string z) : DataW H) := by
    have := congrArg Prod.fst hx
    simpa using this
   have hxl : xs.length = n := by simpa using Lib.mapM_length hm
   have hzl : zs.length = n := by
    have := congrArg List.length hxs
    simp at this
    omega
   apply List.ext_getElem?
   intro i
   by_cases hi : i < n
   ·obtain ⟨b, hb, hf⟩ := Lib.mapM_at hm i i (by simp [hi])
    obtain ⟨z, hc, rfl, _⟩ := DataW.trod_string he hf
    have h1 : cs[i]? = some (.string z) := by
     have := congrArg (·[0]?) hc
     simpa [List.getElem?_take, List.getElem?_drop] using this
    have h2 : (xs.map (·.1))[i]? = some (DataW.lit (.string z.data.toList) : DataW H) := by simp [hb]
    rw [hxs] at h2
    simp only [List.getElem?_map, Option.map_eq_some_iff, DataW.lit.injEq, Lit.string.injEq] at h2
    obtain ⟨z', hz', rfl⟩ := h2
    simp only [h1, List.getElem?_map, hz', Option.map_some]
   ·rw [List.getElem?_eq_none (by omega), List.getElem?_eq_none (by simp; omega)]
  ·cases h
def namesZ : List (List UInt8) := [[], [72, 83, 50, 53, 54], [72, 83, 51, 56, 52], [72, 83, 53, 49, 50], [82, 83, 50, 53, 54], [82, 83, 51, 56, 52], [82, 83, 53, 49, 50], [80, 83, 50, 53, 54], [80, 83, 51, 56, 52], [80, 83, 53, 49, 50], [69, 83, 50, 53, 54], [69, 83, 51, 56, 52], [69, 100, 68, 83, 65]]
theorem names_cells {W : World} (h : Lib.VarReads Tryd.prog W "signet/keyset.names" Rows.laid_signet_keyset_names) : ∀ k, k < 13 → W.cell? ⟨0, k, none⟩ = some (.string (algAt k)) := by
 intro k hk
 obtain ⟨g, t, cs, fuel, p, hg, hty, hvar, hd⟩ := h
 have hg' : Tryd.prog.globalNamed "signet/keyset.names" = some 0 := by kernel_rfl
 obtain rfl := Option.some.inj (hg'.symm.trans hg)
 have hty' : (Tryd.prog.globals[0]?).map (·.type) = some 74 := by kernel_rfl
 obtain rfl := Option.some.inj (hty'.symm.trans hty)
 have hcs := cells_strs (n := 13) (e := 9) (zs := namesZ) (by kernel_rfl) (by kernel_rfl) (by kernel_rfl) (by kernel_rfl) hd
 rw [World.var?_cell hg hvar k, ← Array.getElem?_toList, hcs]
 match k, hk with
 | 0, _ | 1, _ | 2, _ | 3, _ | 4, _ | 5, _ | 6, _ | 7, _ | 8, _ | 9, _ | 10, _ | 11, _ | 12, _ => rfl
theorem utf8N_tabs {W : World} (h3 : Lib.VarReads Tryd.prog W "unicode/utf8.first" Rows.laid_unicode_utf8_first) (h4 : Lib.VarReads Tryd.prog W "unicode/utf8.acceptRanges" Rows.laid_unicode_utf8_acceptRanges) (h5 : Lib.VarReads Tryd.prog W "signet/keyset.names" Rows.laid_signet_keyset_names) : tabOK noX W := by
 rw [first_data] at h3
 rw [accept_data] at h4
 exact ⟨utf8Tabs_of_reads Tryd.laysSlow ⟨by kernel_rfl, by kernel_rfl, by kernel_rfl, by kernel_rfl, by kernel_rfl, by kernel_rfl, by kernel_rfl⟩ h3 h4, names_cells h5, fun h => h, fun h => h, fun h => h⟩
end Go.Proofs.YtekkjbomadoplaaDoor
