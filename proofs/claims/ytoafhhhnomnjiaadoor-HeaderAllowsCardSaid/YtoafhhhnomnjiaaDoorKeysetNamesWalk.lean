/-
  KeysetNames: the walk of the law over the contracts of Alg; what the row's list of variables gives.
-/
import Derived.Test.YtoafhhhnomnjiaaDoorAlg
import Derived.Test.YtoafhhhnomnjiaaDoorRows
import Derived.ProofKit
namespace Go.Proofs.YtoafhhhnomnjiaaDoor.keysetNames
open Go.RowKit

theorem keysetNames_walk (s : ByteArray) (a : Int) (w : World) (_hs : s.size ≤ RB) (ha : I64 a) (ht : NamesTab w) :
    Calls Tryd.prog 3 #[.string s, .int .i64 a] w fun e w' => e = .returned (.bool true) ∧ Below w.heap.size w w' := by
  have hx : a ≤ 9223372036854775807 := ha.2
  clear _hs ha
  have Ht := Lib.hid ht
  clear ht
  go_enter Tryd.func3, Tryd.ntmps3
  go_wp2_with fail
  refine (keyset_Of _ _ Ht.out).mono ?_
  rintro e w' ⟨rfl, rfl⟩
  go_wp2_with fail
  refine (ref_Of _ _).mono ?_
  rintro e w1 ⟨rfl, hb1⟩
  have Ht1 := Lib.hid (Ht.out.below hb1)
  go_wp2_with fail
  refine (keyset_Name _ _ hx Ht1.out).mono ?_
  rintro e w' ⟨rfl, rfl⟩
  go_wp2_with fail
  refine (ref_Name _ _ hx).mono ?_
  rintro e w2 ⟨rfl, hb2⟩
  go_wp2_with fail
  go_ret
  exact ⟨rfl, hb1.trans (hb2.mono hb1.size)⟩

theorem namesTab_of {W : World} {rest : List (String × DataW Unit)} (h : laidMet Tryd.prog (("signet/keyset.names", Rows.laid_signet_keyset_names) :: rest) W) : NamesTab W := by
  obtain ⟨cs, e, fr, base, sp, held, fuel, p, hh, hd⟩ := laid_head (g := 0) (t := 70) (by kernel_rfl) (by kernel_rfl) h
  have hc := cells_of_strs (zs := namesL.map fun s => s.data.toList) (t := 70) (e := 9) Tryd.underlying70 Tryd.underlying9 (by kernel_rfl) (by kernel_rfl) hd
  have hcs : cs = namesArr := by
    apply Array.toList_inj.1
    rw [hc]
    rfl
  exact ⟨e, fr, hcs ▸ hh⟩

theorem keysetNames_tabs {W : World} (h : laidMetH Tryd.prog Rows.keysetNamesRow.laid W) : NamesTab W := namesTab_of (rest := []) h

end Go.Proofs.YtoafhhhnomnjiaaDoor.keysetNames
