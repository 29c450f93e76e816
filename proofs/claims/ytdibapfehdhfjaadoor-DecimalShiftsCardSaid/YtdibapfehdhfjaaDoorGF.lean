/-
  Functions as the engine reads them (printed by gen.py).
-/
import Derived.Test.YtdibapfehdhfjaaDoorEngO
import Derived.Test.YtdibapfehdhfjaaDoorProg
import Derived.Test.YtdibapfehdhfjaaDoorGC
import Derived.Test.YtdibapfehdhfjaaDoorGD
import Derived.Test.YtdibapfehdhfjaaDoorGE
namespace Go.Proofs.YtdibapfehdhfjaaDoor
open Go.Eng
set_option linter.unusedVariables false
set_option linter.unusedSimpArgs false
set_option maxRecDepth 100000
/-! ### signet/signetlaw2.cut -/
noncomputable def signetlaw2_cut_p0_step (s : ByteArray) (i : Int) : Option (Int ⊕ ((ByteArray × ByteArray) ⊕ Unit)) :=
  bif decide (i < (s.size : Int)) then (
    gd (0 ≤ i ∧ i < s.size) <|
    bif decide ((bAt s i) = (46 : Int)) then (
      gd (0 ≤ (0 : Int) ∧ (0 : Int) ≤ i ∧ i ≤ s.size) <|
      gd (InI64 (i + (1 : Int))) <|
      gd (0 ≤ (i + (1 : Int)) ∧ (i + (1 : Int)) ≤ (s.size : Int) ∧ (s.size : Int) ≤ s.size) <|
      some (.inr (.inl ((s.extract 0 (Int.toNat i)), (s.extract (Int.toNat (i + (1 : Int))) s.size)))))
    else (
      gd (InI64 (i + (1 : Int))) <|
      some (.inl (i + (1 : Int)))))
  else (
    some (.inr (.inr ())))
noncomputable def signetlaw2_cut_p0 (s : ByteArray) (i : Int) : Option ((ByteArray × ByteArray) ⊕ Unit) :=
  whileO (fun x : Int => signetlaw2_cut_p0_step s x) i
noncomputable def signetlaw2_cut_s (s : ByteArray) : Option (ByteArray × ByteArray) :=
  (signetlaw2_cut_p0 s (0 : Int)).bind fun o1 => (Sum.elim (fun (o1_0 : ByteArray × ByteArray) =>
    some (o1_0.1, o1_0.2)) (fun (o1_1 : Unit) =>
    some (s, (⟨#[]⟩ : ByteArray)))) o1
/-! ### signet/signetlaw2.DecimalBack -/
end Go.Proofs.YtdibapfehdhfjaaDoor
