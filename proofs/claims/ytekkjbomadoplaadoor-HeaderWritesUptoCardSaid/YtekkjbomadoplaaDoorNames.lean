/-
 The algorithms' names, by their numbers. No program.
-/
namespace Go.Eng
def algN : List ByteArray := [⟨#[]⟩, ⟨#[72, 83, 50, 53, 54]⟩, ⟨#[72, 83, 51, 56, 52]⟩, ⟨#[72, 83, 53, 49, 50]⟩, ⟨#[82, 83, 50, 53, 54]⟩, ⟨#[82, 83, 51, 56, 52]⟩, ⟨#[82, 83, 53, 49, 50]⟩, ⟨#[80, 83, 50, 53, 54]⟩, ⟨#[80, 83, 51, 56, 52]⟩, ⟨#[80, 83, 53, 49, 50]⟩, ⟨#[69, 83, 50, 53, 54]⟩, ⟨#[69, 83, 51, 56, 52]⟩, ⟨#[69, 100, 68, 83, 65]⟩]
def algAt (k : Nat) : ByteArray := algN.getD k ⟨#[]⟩
/-- The name of a number; none: no text. -/
def algS (a : Int) : ByteArray := if a < 0 ∨ 13 ≤ a then ⟨#[]⟩ else algAt a.toNat
end Go.Eng
