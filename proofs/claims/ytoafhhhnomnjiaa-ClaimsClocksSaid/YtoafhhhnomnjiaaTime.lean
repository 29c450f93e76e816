/-
  claims.plus, Clock, Open and the document's far, less, Clock, Open: what they answer.
-/
import Derived.Test.YtoafhhhnomnjiaaTimeLaw
import Derived.Test.YtoafhhhnomnjiaaBitsLaw
import Derived.Test.YtoafhhhnomnjiaaProg
namespace Go.Proofs.Ytoafhhhnomnjiaa
open Go.RowKit

theorem far_hi {a m : Int} (ha : I64 a) (hm : -1000 ≤ m ∧ m ≤ 1000) : wrap64 (a / 4294967296 + wrap64 (bits BinOp.and IntKind.i64 a 4294967295 + m) / 4294967296) = hi32 (a + m) := by
  unfold I64 at ha
  rw [and_low32]
  unfold hi32
  have e1 : wrap64 (a % 4294967296 + m) = a % 4294967296 + m := IntWalk.wrap64_in _ (by omega)
  rw [e1]
  rw [IntWalk.wrap64_in _ (by omega)]
  omega
theorem far_lo {a m : Int} (hm : -1000 ≤ m ∧ m ≤ 1000) : bits BinOp.and IntKind.i64 (wrap64 (bits BinOp.and IntKind.i64 a 4294967295 + m)) 4294967295 = lo32 (a + m) := by
  rw [and_low32, and_low32]
  have e1 : wrap64 (a % 4294967296 + m) = a % 4294967296 + m := IntWalk.wrap64_in _ (by omega)
  rw [e1]
  unfold lo32
  omega

theorem ref_far (a m : Int) (w : World) (ha : I64 a) (hm : -1000 ≤ m ∧ m ≤ 1000) :
    Calls Try.prog 18 #[.int .i64 a, .int .i64 m] w fun e w' => e = .returned (.agg #[.int .i64 (hi32 (a + m)), .int .i64 (lo32 (a + m))]) ∧ Below w.heap.size w w' := by
  have e1 := Lib.hid (far_hi ha hm)
  have e2 := Lib.hid (far_lo (a := a) hm)
  obtain ⟨h1, h2⟩ := ha
  obtain ⟨h3, h4⟩ := hm
  go_enter Try.func18, Try.ntmps18
  go_wp2
  refine bodyPost_ret (by simp [results, Try.results18, go_sem]; exact rfl) rfl ⟨?_, (Below.refl _ _).alloc (Nat.le_refl _) _⟩
  rw [e1.out, e2.out]

theorem ref_less (a b : Int) (w : World) :
    Calls Try.prog 19 #[.agg #[.int .i64 (hi32 a), .int .i64 (lo32 a)], .agg #[.int .i64 (hi32 b), .int .i64 (lo32 b)]] w
      fun e w' => e = .returned (.bool (decide (a < b))) ∧ Below w.heap.size w w' := by
  have hl := Lib.hid (less_iff a b)
  unfold lessV at hl
  generalize hi32 a = p at *
  generalize lo32 a = q at *
  generalize hi32 b = r at *
  generalize lo32 b = s at *
  rw [← hl.out]
  clear hl
  by_cases h1 : p < r
  · go_enter Try.func19, Try.ntmps19
    go_wp2
    go_ret
    exact ⟨by simp [h1], ((Below.refl _ _).alloc (Nat.le_refl _) _).alloc (by simp) _⟩
  · by_cases h2 : p = r
    · subst h2
      go_enter Try.func19, Try.ntmps19
      go_wp2
      go_ret
      exact ⟨by simp, ((Below.refl _ _).alloc (Nat.le_refl _) _).alloc (by simp) _⟩
    · have h3 : (p == r) = false := by simpa using h2
      go_enter Try.func19, Try.ntmps19
      go_wp2
      go_ret
      exact ⟨by simp [h1], ((Below.refl _ _).alloc (Nat.le_refl _) _).alloc (by simp) _⟩

theorem claims_plus (a b : Int) (w : World) (ha : I64 a) (hb : -600 ≤ b ∧ b ≤ 600) :
    Calls Try.prog 17 #[.int .i64 a, .int .i64 b] w fun e w' => e = .returned (.int .i64 (plusV a b)) ∧ w = w' := by
  obtain ⟨h1, h2⟩ := ha
  obtain ⟨h3, h4⟩ := hb
  have hp : Hid (plusV a b = if 0 < b ∧ maxI - b < a then maxI else if b < 0 ∧ a < minI - b then minI else a + b) := rfl
  unfold maxI minI at hp
  by_cases c1 : 0 < b
  · by_cases c2 : 9223372036854775807 - b < a
    · have hv : Hid (plusV a b = 9223372036854775807) := by show _ = _; rw [hp.out, if_pos ⟨c1, c2⟩]
      go_enter Try.func17, Try.ntmps17
      go_wp2
      go_ret
      exact ⟨returned_int (by rw [hv.out]), rfl⟩
    · have hv : Hid (plusV a b = a + b) := by show _ = _; rw [hp.out, if_neg (by omega), if_neg (by omega)]
      go_enter Try.func17, Try.ntmps17
      go_wp2
      go_ret
      exact ⟨returned_int (by rw [hv.out]), rfl⟩
  · by_cases c3 : b < 0
    · by_cases c4 : a < -9223372036854775808 - b
      · have hv : Hid (plusV a b = -9223372036854775808) := by show _ = _; rw [hp.out, if_neg (by omega), if_pos ⟨c3, c4⟩]
        go_enter Try.func17, Try.ntmps17
        go_wp2
        go_ret
        exact ⟨returned_int (by rw [hv.out]), rfl⟩
      · have hv : Hid (plusV a b = a + b) := by show _ = _; rw [hp.out, if_neg (by omega), if_neg (by omega)]
        go_enter Try.func17, Try.ntmps17
        go_wp2
        go_ret
        exact ⟨returned_int (by rw [hv.out]), rfl⟩
    · have hv : Hid (plusV a b = a + b) := by show _ = _; rw [hp.out, if_neg (by omega), if_neg (by omega)]
      go_enter Try.func17, Try.ntmps17
      go_wp2
      go_ret
      exact ⟨returned_int (by rw [hv.out]), rfl⟩

end Go.Proofs.Ytoafhhhnomnjiaa
