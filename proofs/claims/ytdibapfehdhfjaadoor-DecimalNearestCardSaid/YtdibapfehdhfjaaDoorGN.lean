/-
  Functions as the engine reads them (printed by gen.py).
-/
import Derived.Test.YtdibapfehdhfjaaDoorEngO
import Derived.Test.YtdibapfehdhfjaaDoorProg
import Derived.Test.YtdibapfehdhfjaaDoorGC
import Derived.Test.YtdibapfehdhfjaaDoorGD
import Derived.Test.YtdibapfehdhfjaaDoorGE
import Derived.Test.YtdibapfehdhfjaaDoorGF
namespace Go.Proofs.YtdibapfehdhfjaaDoor
open Go.Eng
set_option linter.unusedVariables false
set_option linter.unusedSimpArgs false
set_option maxRecDepth 100000
/-! ### signet/signetlaw2.value -/
def signetlaw2_value_q : IQ :=
  (.seq
  (.reg 2 none [
    ⟨(some 2), .mv (.v (.string ⟨#[]⟩)), none⟩])
  (.seq
  (.seq
  (.reg 4 none [
    ⟨(some 3), .mv (.t 0), none⟩,
    ⟨(some 4), .bin false .eql (.t 3) (.v (.int .u32 2139095040)), none⟩])
  (.cond (.t 4)
    (.seq
    (.reg 2 none [
      ⟨(some 2), .mv (.v (.string ⟨#[51, 52, 48, 50, 56, 50, 51, 54, 54, 57, 50, 48, 57, 51, 56, 52, 54, 51, 52, 54, 51, 51, 55, 52, 54, 48, 55, 52, 51, 49, 55, 54, 56, 50, 49, 49, 52, 53, 54]⟩)), none⟩])
    (.canon [] [2] .ret))
    .skip))
  (.seq
  (.reg 2 none [
    ⟨(some 5), .mv (.t 0), none⟩,
    ⟨(some 6), .call 13 [(.t 5)], none⟩,
    ⟨(some 2), .mv (.t 6), none⟩])
  (.canon [] [2] .ret))))
theorem signetlaw2_value_chk : chk Tryd.prog 28 [] = some (signetlaw2_value_q.erase, [.tmp 2], 7) := by kernel_rfl
noncomputable def signetlaw2_value_s (bits : Int) : Option ByteArray :=
  bif decide (bits = (2139095040 : Int)) then (
    some (⟨#[51, 52, 48, 50, 56, 50, 51, 54, 54, 57, 50, 48, 57, 51, 56, 52, 54, 51, 52, 54, 51, 51, 55, 52, 54, 48, 55, 52, 51, 49, 55, 54, 56, 50, 49, 49, 52, 53, 54]⟩ : ByteArray))
  else (
    (decimal_Exact_s bits).bind fun r1 =>
    some r1)
noncomputable def signetlaw2_value_G : Nat → Option CQ := tblQ [(13, decimal_Exact_w)]
theorem signetlaw2_value_Gok : ∀ f C, signetlaw2_value_G f = some C → ValidQ Tryd.prog f C := tblQ_valid ⟨decimal_Exact_ok, trivial⟩
noncomputable def signetlaw2_value_L : Nat → SubQ := tblL []
theorem signetlaw2_value_subs : subsOK signetlaw2_value_L signetlaw2_value_G 0 3 7 signetlaw2_value_q := subs_of (show AllSub signetlaw2_value_L signetlaw2_value_G 0 3 7 [] from trivial)
theorem signetlaw2_value_eq (bits : Int) (R : Type) (k : SV → List SB → Option R) :
    fnQ signetlaw2_value_L signetlaw2_value_G 3 7 signetlaw2_value_q [.tmp 2] [.c (.o (.val (.int .u32 bits)))] [] k = (signetlaw2_value_s bits).bind fun r => k (.c (.o (.val (.string r)))) [] := by
  simp only [signetlaw2_value_s, -eq_self, bind_cond, bind_gd, Option.bind_assoc, Option.bind_some, Sum.elim_inl, Sum.elim_inr, bind_elim]
  kernel_rfl
def signetlaw2_value_da := (dCons (dVC (dCO (dI .u32))) dNil)
def signetlaw2_value_db := (dNil : Dec Unit (List SB))
noncomputable def signetlaw2_value_c : CS := fun args hp R k => (Dec.d signetlaw2_value_da args).bind fun x => (Dec.d signetlaw2_value_db hp).bind fun y => (signetlaw2_value_s x.1).bind fun r => k (.c (.o (.val (.string r)))) []
theorem signetlaw2_value_val : ValidS Tryd.prog 28 signetlaw2_value_c :=
  val_ok signetlaw2_value_chk 3 signetlaw2_value_Gok signetlaw2_value_da signetlaw2_value_db 0 (fun x y R k => (signetlaw2_value_s x.1).bind fun r => k (.c (.o (.val (.string r)))) []) (by kernel_rfl)
    (fun x y R k => by simp only [Option.bind_assoc, Option.bind_some]) (fun x => Nat.le_of_ble_eq_true rfl) (fun y => rfl) signetlaw2_value_subs fun x y => signetlaw2_value_eq x.1 _ _
noncomputable def signetlaw2_value_w : CQ := liftV [] signetlaw2_value_c
theorem signetlaw2_value_ok : ValidQ Tryd.prog 28 signetlaw2_value_w := liftV_valid signetlaw2_value_val

/-! ### signet/signetlaw2.sum -/
def signetlaw2_sum_b0 : IQ :=
  (.loop [5, 6, 7, 8]
    (.seq
    (.seq
    (.reg 29 none [
      ⟨(some 25), .mv (.t 6), none⟩,
      ⟨(some 26), .lenS (.t 25), none⟩,
      ⟨(some 27), .mv (.t 8), none⟩,
      ⟨(some 28), .lenS (.t 27), none⟩,
      ⟨(some 29), .bin false .lss (.t 26) (.t 28), none⟩])
    (.cond (.t 29)
      .skip
      (.canon [] [5, 6, 7, 8] (.exit 0))))
    (.block 1
      (.reg 6 none [
        ⟨(some 30), .mv (.t 6), none⟩,
        ⟨(some 31), .bin false .add (.t 30) (.v (.string ⟨#[48]⟩)), none⟩,
        ⟨(some 6), .mv (.t 31), none⟩]))))
def signetlaw2_sum_b1 : IQ :=
  (.loop [5, 6, 7, 8]
    (.seq
    (.seq
    (.reg 36 none [
      ⟨(some 32), .mv (.t 8), none⟩,
      ⟨(some 33), .lenS (.t 32), none⟩,
      ⟨(some 34), .mv (.t 6), none⟩,
      ⟨(some 35), .lenS (.t 34), none⟩,
      ⟨(some 36), .bin false .lss (.t 33) (.t 35), none⟩])
    (.cond (.t 36)
      .skip
      (.canon [] [5, 6, 7, 8] (.exit 2))))
    (.block 3
      (.reg 8 none [
        ⟨(some 37), .mv (.t 8), none⟩,
        ⟨(some 38), .bin false .add (.t 37) (.v (.string ⟨#[48]⟩)), none⟩,
        ⟨(some 8), .mv (.t 38), none⟩]))))
def signetlaw2_sum_b2 : IQ :=
  (.loop [5, 6, 7, 8]
    (.seq
    (.seq
    (.reg 43 none [
      ⟨(some 39), .mv (.t 5), none⟩,
      ⟨(some 40), .lenS (.t 39), none⟩,
      ⟨(some 41), .mv (.t 7), none⟩,
      ⟨(some 42), .lenS (.t 41), none⟩,
      ⟨(some 43), .bin false .lss (.t 40) (.t 42), none⟩])
    (.cond (.t 43)
      .skip
      (.canon [] [5, 6, 7, 8] (.exit 4))))
    (.block 5
      (.reg 5 none [
        ⟨(some 44), .mv (.t 5), none⟩,
        ⟨(some 45), .bin false .add (.v (.string ⟨#[48]⟩)) (.t 44), none⟩,
        ⟨(some 5), .mv (.t 45), none⟩]))))
def signetlaw2_sum_b3 : IQ :=
  (.loop [5, 6, 7, 8]
    (.seq
    (.seq
    (.reg 50 none [
      ⟨(some 46), .mv (.t 7), none⟩,
      ⟨(some 47), .lenS (.t 46), none⟩,
      ⟨(some 48), .mv (.t 5), none⟩,
      ⟨(some 49), .lenS (.t 48), none⟩,
      ⟨(some 50), .bin false .lss (.t 47) (.t 49), none⟩])
    (.cond (.t 50)
      .skip
      (.canon [] [5, 6, 7, 8] (.exit 6))))
    (.block 7
      (.reg 7 none [
        ⟨(some 51), .mv (.t 7), none⟩,
        ⟨(some 52), .bin false .add (.v (.string ⟨#[48]⟩)) (.t 51), none⟩,
        ⟨(some 7), .mv (.t 52), none⟩]))))
def signetlaw2_sum_b4 : IQ :=
  (.loop [5, 6, 9, 10, 11, 12, 13]
    (.seq
    (.seq
    (.reg 66 none [
      ⟨(some 65), .mv (.t 13), none⟩,
      ⟨(some 66), .bin false .geq (.t 65) (.v (.int .i64 0)), none⟩])
    (.cond (.t 66)
      .skip
      (.canon [] [5, 6, 11, 12] (.exit 8))))
    (.seq
    (.block 9
      (.seq
      (.reg 12 (some [0, 1, 2, 3, 4, 5, 6, 7, 8, 9, 10, 11, 12, 13]) [
        ⟨(some 69), .mv (.t 12), none⟩,
        ⟨(some 70), .mv (.t 9), none⟩,
        ⟨(some 71), .mv (.t 13), none⟩,
        ⟨(some 72), .index (.t 70) (.t 71), none⟩,
        ⟨(some 73), .bin false .sub (.t 72) (.v (.int .u8 48)), none⟩,
        ⟨(some 74), .conv false .i64 (.t 73), none⟩,
        ⟨(some 75), .bin false .add (.t 69) (.t 74), none⟩,
        ⟨(some 76), .mv (.t 10), none⟩,
        ⟨(some 77), .mv (.t 13), none⟩,
        ⟨(some 78), .index (.t 76) (.t 77), none⟩,
        ⟨(some 79), .bin false .sub (.t 78) (.v (.int .u8 48)), none⟩,
        ⟨(some 80), .conv false .i64 (.t 79), none⟩,
        ⟨(some 81), .bin false .add (.t 75) (.t 80), none⟩,
        ⟨(some 12), .mv (.t 81), none⟩])
      (.seq
      (.reg 0 none [
        ⟨(some 82), .mv (.t 11), none⟩,
        ⟨(some 83), .mv (.t 13), none⟩,
        ⟨(some 84), .mv (.t 12), none⟩,
        ⟨(some 85), .bin false .rem (.t 84) (.v (.int .i64 10)), none⟩,
        ⟨(some 86), .bin false .add (.v (.int .i64 48)) (.t 85), none⟩,
        ⟨(some 87), .conv false .u8 (.t 86), none⟩,
        ⟨(some 88), .iaddr 1 (.t 82) (.t 83), none⟩,
        ⟨none, .store 1 (.t 88) (.t 87), none⟩])
      (.reg 12 none [
        ⟨(some 89), .mv (.t 12), none⟩,
        ⟨(some 90), .bin false .quo (.t 89) (.v (.int .i64 10)), none⟩,
        ⟨(some 12), .mv (.t 90), none⟩]))))
    (.reg 13 none [
      ⟨(some 67), .mv (.t 13), none⟩,
      ⟨(some 68), .bin false .sub (.t 67) (.v (.int .i64 1)), none⟩,
      ⟨(some 13), .mv (.t 68), none⟩]))))
def signetlaw2_sum_b6 : IQ :=
  (.loop [5, 6, 11, 14]
    (.seq
    (.seq
    (.reg 107 none [
      ⟨(some 100), .mv (.t 14), none⟩,
      ⟨(some 101), .lenS (.t 100), none⟩,
      ⟨(some 102), .bin false .gtr (.t 101) (.v (.int .i64 1)), none⟩,
      ⟨(some 103), .mv (.t 102), none⟩,
      ⟨(some 104), .mv (.t 14), some (103, true)⟩,
      ⟨(some 105), .index (.t 104) (.v (.int .i64 0)), some (103, true)⟩,
      ⟨(some 106), .bin false .eql (.t 105) (.v (.int .u8 48)), some (103, true)⟩,
      ⟨(some 107), .pick (.t 103) (.t 106) (.v (.bool false)), none⟩])
    (.cond (.t 107)
      .skip
      (.canon [] [5, 6, 11, 14] (.exit 10))))
    (.block 11
      (.reg 14 none [
        ⟨(some 108), .mv (.t 14), none⟩,
        ⟨(some 109), .sub none (.t 108) (some (.v (.int .i64 1))) none, none⟩,
        ⟨(some 14), .mv (.t 109), none⟩]))))
def signetlaw2_sum_b5 : IQ :=
  (.seq
  (.block 10
    (.canon [] [5, 6, 11, 14] (.sub 6 signetlaw2_sum_b6)))
  (.seq
  (.seq
  (.reg 112 none [
    ⟨(some 110), .mv (.t 6), none⟩,
    ⟨(some 111), .lenS (.t 110), none⟩,
    ⟨(some 112), .bin false .gtr (.t 111) (.v (.int .i64 0)), none⟩])
  (.cond (.t 112)
    (.reg 14 none [
      ⟨(some 113), .mv (.t 14), none⟩,
      ⟨(some 114), .bin false .add (.t 113) (.v (.string ⟨#[46]⟩)), none⟩,
      ⟨(some 115), .mv (.t 11), none⟩,
      ⟨(some 116), .mv (.t 5), none⟩,
      ⟨(some 117), .lenS (.t 116), none⟩,
      ⟨(some 118), .sub (some 1) (.t 115) (some (.t 117)) none, none⟩,
      ⟨(some 119), .ext .toStr [(.t 118)], none⟩,
      ⟨(some 120), .bin false .add (.t 114) (.t 119), none⟩,
      ⟨(some 14), .mv (.t 120), none⟩])
    .skip))
  (.seq
  (.reg 4 none [
    ⟨(some 121), .mv (.t 14), none⟩,
    ⟨(some 4), .mv (.t 121), none⟩])
  (.canon [] [4] .ret))))
def signetlaw2_sum_q : IQ :=
  (.seq
  (.reg 4 none [
    ⟨(some 4), .mv (.v (.string ⟨#[]⟩)), none⟩])
  (.seq
  (.reg 6 none [
    ⟨(some 16), .mv (.t 0), none⟩,
    ⟨(some 17), .call 29 [(.t 16)], none⟩,
    ⟨(some 15), .mv (.t 17), none⟩,
    ⟨(some 18), .extract (.t 15) 0, none⟩,
    ⟨(some 19), .extract (.t 15) 1, none⟩,
    ⟨(some 5), .mv (.t 18), none⟩,
    ⟨(some 6), .mv (.t 19), none⟩])
  (.seq
  (.reg 8 none [
    ⟨(some 21), .mv (.t 1), none⟩,
    ⟨(some 22), .call 29 [(.t 21)], none⟩,
    ⟨(some 20), .mv (.t 22), none⟩,
    ⟨(some 23), .extract (.t 20) 0, none⟩,
    ⟨(some 24), .extract (.t 20) 1, none⟩,
    ⟨(some 7), .mv (.t 23), none⟩,
    ⟨(some 8), .mv (.t 24), none⟩])
  (.seq
  (.block 0
    (.canon [] [5, 6, 7, 8] (.sub 0 signetlaw2_sum_b0)))
  (.seq
  (.block 2
    (.canon [] [5, 6, 7, 8] (.sub 1 signetlaw2_sum_b1)))
  (.seq
  (.block 4
    (.canon [] [5, 6, 7, 8] (.sub 2 signetlaw2_sum_b2)))
  (.seq
  (.block 6
    (.canon [] [5, 6, 7, 8] (.sub 3 signetlaw2_sum_b3)))
  (.seq
  (.reg 9 none [
    ⟨(some 53), .mv (.t 5), none⟩,
    ⟨(some 54), .mv (.t 6), none⟩,
    ⟨(some 55), .bin false .add (.t 53) (.t 54), none⟩,
    ⟨(some 9), .mv (.t 55), none⟩])
  (.seq
  (.reg 10 none [
    ⟨(some 56), .mv (.t 7), none⟩,
    ⟨(some 57), .mv (.t 8), none⟩,
    ⟨(some 58), .bin false .add (.t 56) (.t 57), none⟩,
    ⟨(some 10), .mv (.t 58), none⟩])
  (.seq
  (.reg 11 none [
    ⟨(some 59), .mv (.t 9), none⟩,
    ⟨(some 60), .lenS (.t 59), none⟩,
    ⟨(some 61), .ext (.mkslice 5 1 1 [.int .u8 0]) [(.t 60), (.t 60)], none⟩,
    ⟨(some 11), .mv (.t 61), none⟩])
  (.seq
  (.reg 12 none [
    ⟨(some 12), .mv (.v (.int .i64 0)), none⟩])
  (.seq
  (.seq
  (.reg 13 none [
    ⟨(some 62), .mv (.t 9), none⟩,
    ⟨(some 63), .lenS (.t 62), none⟩,
    ⟨(some 64), .bin false .sub (.t 63) (.v (.int .i64 1)), none⟩,
    ⟨(some 13), .mv (.t 64), none⟩])
  (.block 8
    (.canon [] [5, 6, 9, 10, 11, 12, 13] (.sub 4 signetlaw2_sum_b4))))
  (.seq
  (.reg 14 none [
    ⟨(some 91), .mv (.t 11), none⟩,
    ⟨(some 92), .mv (.t 5), none⟩,
    ⟨(some 93), .lenS (.t 92), none⟩,
    ⟨(some 94), .sub (some 1) (.t 91) (some (.v (.int .i64 0))) (some (.t 93)), none⟩,
    ⟨(some 95), .ext .toStr [(.t 94)], none⟩,
    ⟨(some 14), .mv (.t 95), none⟩])
  (.seq
  (.seq
  (.reg 97 none [
    ⟨(some 96), .mv (.t 12), none⟩,
    ⟨(some 97), .bin false .gtr (.t 96) (.v (.int .i64 0)), none⟩])
  (.cond (.t 97)
    (.reg 14 none [
      ⟨(some 98), .mv (.t 14), none⟩,
      ⟨(some 99), .bin false .add (.v (.string ⟨#[49]⟩)) (.t 98), none⟩,
      ⟨(some 14), .mv (.t 99), none⟩])
    .skip))
  (.canon [] [5, 6, 11, 14] (.sub 5 signetlaw2_sum_b5))))))))))))))))
theorem signetlaw2_sum_chk : chk Tryd.prog 27 [94] = some (signetlaw2_sum_q.erase, [.tmp 4], 122) := by kernel_rfl
noncomputable def signetlaw2_sum_p0_step (u : ByteArray) (v : ByteArray) : Option (ByteArray ⊕ ByteArray) :=
  bif decide ((u.size : Int) < (v.size : Int)) then (
    gd (u.size + (⟨#[48]⟩ : ByteArray).size ≤ 9223372036854775807) <|
    some (.inl (u ++ (⟨#[48]⟩ : ByteArray))))
  else (
    some (.inr u))
noncomputable def signetlaw2_sum_p0 (u : ByteArray) (v : ByteArray) : Option ByteArray :=
  whileO (fun x : ByteArray => signetlaw2_sum_p0_step x v) u
noncomputable def signetlaw2_sum_p1_step (u : ByteArray) (v : ByteArray) : Option (ByteArray ⊕ ByteArray) :=
  bif decide ((v.size : Int) < (u.size : Int)) then (
    gd (v.size + (⟨#[48]⟩ : ByteArray).size ≤ 9223372036854775807) <|
    some (.inl (v ++ (⟨#[48]⟩ : ByteArray))))
  else (
    some (.inr v))
noncomputable def signetlaw2_sum_p1 (u : ByteArray) (v : ByteArray) : Option ByteArray :=
  whileO (fun x : ByteArray => signetlaw2_sum_p1_step u x) v
noncomputable def signetlaw2_sum_p2_step (x_ : ByteArray) (y_ : ByteArray) : Option (ByteArray ⊕ ByteArray) :=
  bif decide ((x_.size : Int) < (y_.size : Int)) then (
    gd ((⟨#[48]⟩ : ByteArray).size + x_.size ≤ 9223372036854775807) <|
    some (.inl ((⟨#[48]⟩ : ByteArray) ++ x_)))
  else (
    some (.inr x_))
noncomputable def signetlaw2_sum_p2 (x_ : ByteArray) (y_ : ByteArray) : Option ByteArray :=
  whileO (fun x : ByteArray => signetlaw2_sum_p2_step x y_) x_
noncomputable def signetlaw2_sum_p3_step (x_ : ByteArray) (y_ : ByteArray) : Option (ByteArray ⊕ ByteArray) :=
  bif decide ((y_.size : Int) < (x_.size : Int)) then (
    gd ((⟨#[48]⟩ : ByteArray).size + y_.size ≤ 9223372036854775807) <|
    some (.inl ((⟨#[48]⟩ : ByteArray) ++ y_)))
  else (
    some (.inr y_))
noncomputable def signetlaw2_sum_p3 (x_ : ByteArray) (y_ : ByteArray) : Option ByteArray :=
  whileO (fun x : ByteArray => signetlaw2_sum_p3_step x_ x) y_
noncomputable def signetlaw2_sum_p4_step (l : ByteArray) (m : ByteArray) (c : Int) (i : Int) (out : List Int) : Option ((Int × Int × (List Int)) ⊕ (Int × (List Int))) :=
  bif decide ((0 : Int) ≤ i) then (
    gd (0 ≤ i ∧ i < l.size) <|
    gd (InI64 (((bAt l i) - (48 : Int)) % 256)) <|
    gd (InI64 (c + (((bAt l i) - (48 : Int)) % 256))) <|
    gd (0 ≤ i ∧ i < m.size) <|
    gd (InI64 (((bAt m i) - (48 : Int)) % 256)) <|
    gd (InI64 ((c + (((bAt l i) - (48 : Int)) % 256)) + (((bAt m i) - (48 : Int)) % 256))) <|
    gd (0 ≤ ((c + (((bAt l i) - (48 : Int)) % 256)) + (((bAt m i) - (48 : Int)) % 256)) ∧ 1 ≤ (10 : Int)) <|
    gd (InI64 ((48 : Int) + (((c + (((bAt l i) - (48 : Int)) % 256)) + (((bAt m i) - (48 : Int)) % 256)) % (10 : Int)))) <|
    gd (0 ≤ i ∧ i < out.length) <|
    gd ((Int.toNat i) < out.length) <|
    gd (0 ≤ ((c + (((bAt l i) - (48 : Int)) % 256)) + (((bAt m i) - (48 : Int)) % 256)) ∧ ((c + (((bAt l i) - (48 : Int)) % 256)) + (((bAt m i) - (48 : Int)) % 256)) ≤ 9223372036854775807 ∧ 1 ≤ (10 : Int)) <|
    gd (InI64 (i - (1 : Int))) <|
    some (.inl ((((c + (((bAt l i) - (48 : Int)) % 256)) + (((bAt m i) - (48 : Int)) % 256)) / (10 : Int)), (i - (1 : Int)), (out.set (Int.toNat i) (((48 : Int) + (((c + (((bAt l i) - (48 : Int)) % 256)) + (((bAt m i) - (48 : Int)) % 256)) % (10 : Int))) % 256)))))
  else (
    some (.inr (c, out)))
noncomputable def signetlaw2_sum_p4 (l : ByteArray) (m : ByteArray) (c : Int) (i : Int) (out : List Int) : Option (Int × (List Int)) :=
  whileO (fun x : (Int × Int × (List Int)) => signetlaw2_sum_p4_step l m x.1 x.2.1 x.2.2) (c, i, out)
noncomputable def signetlaw2_sum_p6_step (s : ByteArray) : Option (ByteArray ⊕ ByteArray) :=
  gd ((decide ((1 : Int) < (s.size : Int))) = true → 0 ≤ (0 : Int) ∧ (0 : Int) < s.size) <|
  bif ((decide ((1 : Int) < (s.size : Int))) && (decide ((bAt s (0 : Int)) = (48 : Int)))) then (
    gd (0 ≤ (1 : Int) ∧ (1 : Int) ≤ (s.size : Int) ∧ (s.size : Int) ≤ s.size) <|
    some (.inl (s.extract 1 s.size)))
  else (
    some (.inr s))
noncomputable def signetlaw2_sum_p6 (s : ByteArray) : Option ByteArray :=
  whileO (fun x : ByteArray => signetlaw2_sum_p6_step x) s
noncomputable def signetlaw2_sum_p5 (x_ : ByteArray) (u : ByteArray) (s : ByteArray) (out : List Int) : Option ByteArray :=
  (signetlaw2_sum_p6 s).bind fun o47 =>
  bif decide ((0 : Int) < (u.size : Int)) then (
    gd (o47.size + (⟨#[46]⟩ : ByteArray).size ≤ 9223372036854775807) <|
    gd (0 ≤ (x_.size : Int) ∧ (x_.size : Int) ≤ (out.length : Int) ∧ (out.length : Int) ≤ out.length) <|
    gd ((Int.toNat (x_.size : Int)) + (out.length - (Int.toNat (x_.size : Int))) ≤ out.length) <|
    gd ((o47 ++ (⟨#[46]⟩ : ByteArray)).size + (bytesI ((out.drop (Int.toNat (x_.size : Int))).take (out.length - (Int.toNat (x_.size : Int))))).size ≤ 9223372036854775807) <|
    some ((o47 ++ (⟨#[46]⟩ : ByteArray)) ++ (bytesI ((out.drop (Int.toNat (x_.size : Int))).take (out.length - (Int.toNat (x_.size : Int)))))))
  else (
    some o47)
noncomputable def signetlaw2_sum_s (a : ByteArray) (b : ByteArray) : Option ByteArray :=
  (signetlaw2_cut_s a).bind fun r40 =>
  (signetlaw2_cut_s b).bind fun r41 =>
  (signetlaw2_sum_p0 r40.2 r41.2).bind fun o42 =>
  (signetlaw2_sum_p1 o42 r41.2).bind fun o43 =>
  (signetlaw2_sum_p2 r40.1 r41.1).bind fun o44 =>
  (signetlaw2_sum_p3 o44 r41.1).bind fun o45 =>
  gd (o44.size + o42.size ≤ 9223372036854775807) <|
  gd (o45.size + o43.size ≤ 9223372036854775807) <|
  gd (0 ≤ ((o44 ++ o42).size : Int) ∧ ((o44 ++ o42).size : Int) ≤ ((o44 ++ o42).size : Int) ∧ ((o44 ++ o42).size : Int) ≤ 9223372036854775807 ∧ ((o44 ++ o42).size : Int) * 1 ≤ 140737488355328) <|
  gd (InI64 (((o44 ++ o42).size : Int) - (1 : Int))) <|
  (signetlaw2_sum_p4 (o44 ++ o42) (o45 ++ o43) (0 : Int) (((o44 ++ o42).size : Int) - (1 : Int)) (List.replicate (Int.toNat ((o44 ++ o42).size : Int)) (0 : Int))).bind fun o46 =>
  gd (0 ≤ (0 : Int) ∧ (0 : Int) ≤ (o44.size : Int) ∧ (o44.size : Int) ≤ o46.2.length) <|
  gd ((0) + (Int.toNat (o44.size : Int)) ≤ o46.2.length) <|
  bif decide ((0 : Int) < o46.1) then (
    gd ((⟨#[49]⟩ : ByteArray).size + (bytesI ((o46.2.drop (0)).take (Int.toNat (o44.size : Int)))).size ≤ 9223372036854775807) <|
    (signetlaw2_sum_p5 o44 o42 ((⟨#[49]⟩ : ByteArray) ++ (bytesI ((o46.2.drop (0)).take (Int.toNat (o44.size : Int))))) o46.2).bind fun o48 =>
    some o48)
  else (
    (signetlaw2_sum_p5 o44 o42 (bytesI ((o46.2.drop (0)).take (Int.toNat (o44.size : Int)))) o46.2).bind fun o49 =>
    some o49)
noncomputable def signetlaw2_sum_G : Nat → Option CQ := tblQ [(29, signetlaw2_cut_w)]
theorem signetlaw2_sum_Gok : ∀ f C, signetlaw2_sum_G f = some C → ValidQ Tryd.prog f C := tblQ_valid ⟨signetlaw2_cut_ok, trivial⟩
def signetlaw2_sum_d0 := (dQS (dCons (dSl 5 (dVC (dCO dS))) (dCons (dSl 6 (dVC (dCO dS))) (dCons (dSl 7 (dVC (dCO dS))) (dCons (dSl 8 (dVC (dCO dS))) dNil)))) dNil)
noncomputable def signetlaw2_sum_l0 : SubQ := fun S R kn kx kr => (Dec.d signetlaw2_sum_d0 S).bind fun x => (signetlaw2_sum_p0 x.1.2.1 x.1.2.2.2.1).bind fun r => kx 0 ⟨[(5, [], .c (.o (.val (.string x.1.1)))), (6, [], .c (.o (.val (.string r)))), (7, [], .c (.o (.val (.string x.1.2.2.1)))), (8, [], .c (.o (.val (.string x.1.2.2.2.1))))], [], []⟩
def signetlaw2_sum_d1 := (dQS (dCons (dSl 5 (dVC (dCO dS))) (dCons (dSl 6 (dVC (dCO dS))) (dCons (dSl 7 (dVC (dCO dS))) (dCons (dSl 8 (dVC (dCO dS))) dNil)))) dNil)
noncomputable def signetlaw2_sum_l1 : SubQ := fun S R kn kx kr => (Dec.d signetlaw2_sum_d1 S).bind fun x => (signetlaw2_sum_p1 x.1.2.1 x.1.2.2.2.1).bind fun r => kx 2 ⟨[(5, [], .c (.o (.val (.string x.1.1)))), (6, [], .c (.o (.val (.string x.1.2.1)))), (7, [], .c (.o (.val (.string x.1.2.2.1)))), (8, [], .c (.o (.val (.string r))))], [], []⟩
def signetlaw2_sum_d2 := (dQS (dCons (dSl 5 (dVC (dCO dS))) (dCons (dSl 6 (dVC (dCO dS))) (dCons (dSl 7 (dVC (dCO dS))) (dCons (dSl 8 (dVC (dCO dS))) dNil)))) dNil)
noncomputable def signetlaw2_sum_l2 : SubQ := fun S R kn kx kr => (Dec.d signetlaw2_sum_d2 S).bind fun x => (signetlaw2_sum_p2 x.1.1 x.1.2.2.1).bind fun r => kx 4 ⟨[(5, [], .c (.o (.val (.string r)))), (6, [], .c (.o (.val (.string x.1.2.1)))), (7, [], .c (.o (.val (.string x.1.2.2.1)))), (8, [], .c (.o (.val (.string x.1.2.2.2.1))))], [], []⟩
def signetlaw2_sum_d3 := (dQS (dCons (dSl 5 (dVC (dCO dS))) (dCons (dSl 6 (dVC (dCO dS))) (dCons (dSl 7 (dVC (dCO dS))) (dCons (dSl 8 (dVC (dCO dS))) dNil)))) dNil)
noncomputable def signetlaw2_sum_l3 : SubQ := fun S R kn kx kr => (Dec.d signetlaw2_sum_d3 S).bind fun x => (signetlaw2_sum_p3 x.1.1 x.1.2.2.1).bind fun r => kx 6 ⟨[(5, [], .c (.o (.val (.string x.1.1)))), (6, [], .c (.o (.val (.string x.1.2.1)))), (7, [], .c (.o (.val (.string r)))), (8, [], .c (.o (.val (.string x.1.2.2.2.1))))], [], []⟩
def signetlaw2_sum_d4 := (dQS (dCons (dSl 5 (dVC (dCO dS))) (dCons (dSl 6 (dVC (dCO dS))) (dCons (dSl 9 (dVC (dCO dS))) (dCons (dSl 10 (dVC (dCO dS))) (dCons (dSl 11 (dVC (dCO (dO 0)))) (dCons (dSl 12 (dVC (dCO (dI .i64)))) (dCons (dSl 13 (dVC (dCO (dI .i64)))) dNil))))))) (dCons (dRow .u8 5) dNil))
noncomputable def signetlaw2_sum_l4 : SubQ := fun S R kn kx kr => (Dec.d signetlaw2_sum_d4 S).bind fun x => (signetlaw2_sum_p4 x.1.2.2.1 x.1.2.2.2.1 x.1.2.2.2.2.2.1 x.1.2.2.2.2.2.2.1 x.2.1).bind fun r => kx 8 ⟨[(5, [], .c (.o (.val (.string x.1.1)))), (6, [], .c (.o (.val (.string x.1.2.1)))), (11, [], .c (.o (.own 0))), (12, [], .c (.o (.val (.int .i64 r.1))))], [], [.row .u8 5 r.2]⟩
def signetlaw2_sum_d6 := (dQS (dCons (dSl 5 (dVC (dCO dS))) (dCons (dSl 6 (dVC (dCO dS))) (dCons (dSl 11 (dVC (dCO (dO 0)))) (dCons (dSl 14 (dVC (dCO dS))) dNil)))) (dCons (dRow .u8 5) dNil))
noncomputable def signetlaw2_sum_l6 : SubQ := fun S R kn kx kr => (Dec.d signetlaw2_sum_d6 S).bind fun x => (signetlaw2_sum_p6 x.1.2.2.2.1).bind fun r => kx 10 ⟨[(5, [], .c (.o (.val (.string x.1.1)))), (6, [], .c (.o (.val (.string x.1.2.1)))), (11, [], .c (.o (.own 0))), (14, [], .c (.o (.val (.string r))))], [], [.row .u8 5 x.2.1]⟩
def signetlaw2_sum_d5 := (dQS (dCons (dSl 5 (dVC (dCO dS))) (dCons (dSl 6 (dVC (dCO dS))) (dCons (dSl 11 (dVC (dCO (dO 0)))) (dCons (dSl 14 (dVC (dCO dS))) dNil)))) (dCons (dRow .u8 5) dNil))
noncomputable def signetlaw2_sum_l5 : SubQ := fun S R kn kx kr => (Dec.d signetlaw2_sum_d5 S).bind fun x => (signetlaw2_sum_p5 x.1.1 x.1.2.1 x.1.2.2.2.1 x.2.1).bind fun r => kr ⟨[(4, [], .c (.o (.val (.string r))))], [], []⟩
noncomputable def signetlaw2_sum_L : Nat → SubQ := tblL [(0, signetlaw2_sum_l0), (1, signetlaw2_sum_l1), (2, signetlaw2_sum_l2), (3, signetlaw2_sum_l3), (4, signetlaw2_sum_l4), (6, signetlaw2_sum_l6), (5, signetlaw2_sum_l5)]
theorem signetlaw2_sum_p0_eq (x_ : ByteArray) (u : ByteArray) (y_ : ByteArray) (v : ByteArray) (R : Type) (kn : QS → Option R) (kx : Nat → QS → Option R) (kr : QS → Option R) :
    interpQ signetlaw2_sum_L signetlaw2_sum_G 0 15 122 signetlaw2_sum_b0 ⟨[(5, [], .c (.o (.val (.string x_)))), (6, [], .c (.o (.val (.string u)))), (7, [], .c (.o (.val (.string y_)))), (8, [], .c (.o (.val (.string v))))], [], []⟩ kn kx kr = (signetlaw2_sum_p0 u v).bind fun r => kx 0 ⟨[(5, [], .c (.o (.val (.string x_)))), (6, [], .c (.o (.val (.string r)))), (7, [], .c (.o (.val (.string y_)))), (8, [], .c (.o (.val (.string v))))], [], []⟩ := by
  refine loop_piece (step := fun x => signetlaw2_sum_p0_step x v) (enc := fun x => ⟨[(5, [], .c (.o (.val (.string x_)))), (6, [], .c (.o (.val (.string x)))), (7, [], .c (.o (.val (.string y_)))), (8, [], .c (.o (.val (.string v))))], [], []⟩) (ko := fun r => kx 0 ⟨[(5, [], .c (.o (.val (.string x_)))), (6, [], .c (.o (.val (.string r)))), (7, [], .c (.o (.val (.string y_)))), (8, [], .c (.o (.val (.string v))))], [], []⟩) ?_ ?_ u
  · intro x; kernel_rfl
  · intro x ki; simp only [signetlaw2_sum_p0_step, -eq_self, bind_cond, bind_gd, Option.bind_assoc, Option.bind_some, Sum.elim_inl, Sum.elim_inr, bind_elim]; kernel_rfl
theorem signetlaw2_sum_sub0 : SubOK signetlaw2_sum_L signetlaw2_sum_G 0 15 122 0 signetlaw2_sum_b0 := sub_ok' signetlaw2_sum_d0 (fun x R kn kx kr => (signetlaw2_sum_p0 x.1.2.1 x.1.2.2.2.1).bind fun r => kx 0 ⟨[(5, [], .c (.o (.val (.string x.1.1)))), (6, [], .c (.o (.val (.string r)))), (7, [], .c (.o (.val (.string x.1.2.2.1)))), (8, [], .c (.o (.val (.string x.1.2.2.2.1))))], [], []⟩) (by kernel_rfl) fun x R kn kx kr => signetlaw2_sum_p0_eq x.1.1 x.1.2.1 x.1.2.2.1 x.1.2.2.2.1 R kn kx kr
theorem signetlaw2_sum_p1_eq (x_ : ByteArray) (u : ByteArray) (y_ : ByteArray) (v : ByteArray) (R : Type) (kn : QS → Option R) (kx : Nat → QS → Option R) (kr : QS → Option R) :
    interpQ signetlaw2_sum_L signetlaw2_sum_G 0 15 122 signetlaw2_sum_b1 ⟨[(5, [], .c (.o (.val (.string x_)))), (6, [], .c (.o (.val (.string u)))), (7, [], .c (.o (.val (.string y_)))), (8, [], .c (.o (.val (.string v))))], [], []⟩ kn kx kr = (signetlaw2_sum_p1 u v).bind fun r => kx 2 ⟨[(5, [], .c (.o (.val (.string x_)))), (6, [], .c (.o (.val (.string u)))), (7, [], .c (.o (.val (.string y_)))), (8, [], .c (.o (.val (.string r))))], [], []⟩ := by
  refine loop_piece (step := fun x => signetlaw2_sum_p1_step u x) (enc := fun x => ⟨[(5, [], .c (.o (.val (.string x_)))), (6, [], .c (.o (.val (.string u)))), (7, [], .c (.o (.val (.string y_)))), (8, [], .c (.o (.val (.string x))))], [], []⟩) (ko := fun r => kx 2 ⟨[(5, [], .c (.o (.val (.string x_)))), (6, [], .c (.o (.val (.string u)))), (7, [], .c (.o (.val (.string y_)))), (8, [], .c (.o (.val (.string r))))], [], []⟩) ?_ ?_ v
  · intro x; kernel_rfl
  · intro x ki; simp only [signetlaw2_sum_p1_step, -eq_self, bind_cond, bind_gd, Option.bind_assoc, Option.bind_some, Sum.elim_inl, Sum.elim_inr, bind_elim]; kernel_rfl
theorem signetlaw2_sum_sub1 : SubOK signetlaw2_sum_L signetlaw2_sum_G 0 15 122 1 signetlaw2_sum_b1 := sub_ok' signetlaw2_sum_d1 (fun x R kn kx kr => (signetlaw2_sum_p1 x.1.2.1 x.1.2.2.2.1).bind fun r => kx 2 ⟨[(5, [], .c (.o (.val (.string x.1.1)))), (6, [], .c (.o (.val (.string x.1.2.1)))), (7, [], .c (.o (.val (.string x.1.2.2.1)))), (8, [], .c (.o (.val (.string r))))], [], []⟩) (by kernel_rfl) fun x R kn kx kr => signetlaw2_sum_p1_eq x.1.1 x.1.2.1 x.1.2.2.1 x.1.2.2.2.1 R kn kx kr
theorem signetlaw2_sum_p2_eq (x_ : ByteArray) (u : ByteArray) (y_ : ByteArray) (v : ByteArray) (R : Type) (kn : QS → Option R) (kx : Nat → QS → Option R) (kr : QS → Option R) :
    interpQ signetlaw2_sum_L signetlaw2_sum_G 0 15 122 signetlaw2_sum_b2 ⟨[(5, [], .c (.o (.val (.string x_)))), (6, [], .c (.o (.val (.string u)))), (7, [], .c (.o (.val (.string y_)))), (8, [], .c (.o (.val (.string v))))], [], []⟩ kn kx kr = (signetlaw2_sum_p2 x_ y_).bind fun r => kx 4 ⟨[(5, [], .c (.o (.val (.string r)))), (6, [], .c (.o (.val (.string u)))), (7, [], .c (.o (.val (.string y_)))), (8, [], .c (.o (.val (.string v))))], [], []⟩ := by
  refine loop_piece (step := fun x => signetlaw2_sum_p2_step x y_) (enc := fun x => ⟨[(5, [], .c (.o (.val (.string x)))), (6, [], .c (.o (.val (.string u)))), (7, [], .c (.o (.val (.string y_)))), (8, [], .c (.o (.val (.string v))))], [], []⟩) (ko := fun r => kx 4 ⟨[(5, [], .c (.o (.val (.string r)))), (6, [], .c (.o (.val (.string u)))), (7, [], .c (.o (.val (.string y_)))), (8, [], .c (.o (.val (.string v))))], [], []⟩) ?_ ?_ x_
  · intro x; kernel_rfl
  · intro x ki; simp only [signetlaw2_sum_p2_step, -eq_self, bind_cond, bind_gd, Option.bind_assoc, Option.bind_some, Sum.elim_inl, Sum.elim_inr, bind_elim]; kernel_rfl
theorem signetlaw2_sum_sub2 : SubOK signetlaw2_sum_L signetlaw2_sum_G 0 15 122 2 signetlaw2_sum_b2 := sub_ok' signetlaw2_sum_d2 (fun x R kn kx kr => (signetlaw2_sum_p2 x.1.1 x.1.2.2.1).bind fun r => kx 4 ⟨[(5, [], .c (.o (.val (.string r)))), (6, [], .c (.o (.val (.string x.1.2.1)))), (7, [], .c (.o (.val (.string x.1.2.2.1)))), (8, [], .c (.o (.val (.string x.1.2.2.2.1))))], [], []⟩) (by kernel_rfl) fun x R kn kx kr => signetlaw2_sum_p2_eq x.1.1 x.1.2.1 x.1.2.2.1 x.1.2.2.2.1 R kn kx kr
theorem signetlaw2_sum_p3_eq (x_ : ByteArray) (u : ByteArray) (y_ : ByteArray) (v : ByteArray) (R : Type) (kn : QS → Option R) (kx : Nat → QS → Option R) (kr : QS → Option R) :
    interpQ signetlaw2_sum_L signetlaw2_sum_G 0 15 122 signetlaw2_sum_b3 ⟨[(5, [], .c (.o (.val (.string x_)))), (6, [], .c (.o (.val (.string u)))), (7, [], .c (.o (.val (.string y_)))), (8, [], .c (.o (.val (.string v))))], [], []⟩ kn kx kr = (signetlaw2_sum_p3 x_ y_).bind fun r => kx 6 ⟨[(5, [], .c (.o (.val (.string x_)))), (6, [], .c (.o (.val (.string u)))), (7, [], .c (.o (.val (.string r)))), (8, [], .c (.o (.val (.string v))))], [], []⟩ := by
  refine loop_piece (step := fun x => signetlaw2_sum_p3_step x_ x) (enc := fun x => ⟨[(5, [], .c (.o (.val (.string x_)))), (6, [], .c (.o (.val (.string u)))), (7, [], .c (.o (.val (.string x)))), (8, [], .c (.o (.val (.string v))))], [], []⟩) (ko := fun r => kx 6 ⟨[(5, [], .c (.o (.val (.string x_)))), (6, [], .c (.o (.val (.string u)))), (7, [], .c (.o (.val (.string r)))), (8, [], .c (.o (.val (.string v))))], [], []⟩) ?_ ?_ y_
  · intro x; kernel_rfl
  · intro x ki; simp only [signetlaw2_sum_p3_step, -eq_self, bind_cond, bind_gd, Option.bind_assoc, Option.bind_some, Sum.elim_inl, Sum.elim_inr, bind_elim]; kernel_rfl
theorem signetlaw2_sum_sub3 : SubOK signetlaw2_sum_L signetlaw2_sum_G 0 15 122 3 signetlaw2_sum_b3 := sub_ok' signetlaw2_sum_d3 (fun x R kn kx kr => (signetlaw2_sum_p3 x.1.1 x.1.2.2.1).bind fun r => kx 6 ⟨[(5, [], .c (.o (.val (.string x.1.1)))), (6, [], .c (.o (.val (.string x.1.2.1)))), (7, [], .c (.o (.val (.string r)))), (8, [], .c (.o (.val (.string x.1.2.2.2.1))))], [], []⟩) (by kernel_rfl) fun x R kn kx kr => signetlaw2_sum_p3_eq x.1.1 x.1.2.1 x.1.2.2.1 x.1.2.2.2.1 R kn kx kr
theorem signetlaw2_sum_p4_eq (x_ : ByteArray) (u : ByteArray) (l : ByteArray) (m : ByteArray) (c : Int) (i : Int) (out : List Int) (R : Type) (kn : QS → Option R) (kx : Nat → QS → Option R) (kr : QS → Option R) :
    interpQ signetlaw2_sum_L signetlaw2_sum_G 0 15 122 signetlaw2_sum_b4 ⟨[(5, [], .c (.o (.val (.string x_)))), (6, [], .c (.o (.val (.string u)))), (9, [], .c (.o (.val (.string l)))), (10, [], .c (.o (.val (.string m)))), (11, [], .c (.o (.own 0))), (12, [], .c (.o (.val (.int .i64 c)))), (13, [], .c (.o (.val (.int .i64 i))))], [], [.row .u8 5 out]⟩ kn kx kr = (signetlaw2_sum_p4 l m c i out).bind fun r => kx 8 ⟨[(5, [], .c (.o (.val (.string x_)))), (6, [], .c (.o (.val (.string u)))), (11, [], .c (.o (.own 0))), (12, [], .c (.o (.val (.int .i64 r.1))))], [], [.row .u8 5 r.2]⟩ := by
  refine loop_piece (step := fun x => signetlaw2_sum_p4_step l m x.1 x.2.1 x.2.2) (enc := fun x => ⟨[(5, [], .c (.o (.val (.string x_)))), (6, [], .c (.o (.val (.string u)))), (9, [], .c (.o (.val (.string l)))), (10, [], .c (.o (.val (.string m)))), (11, [], .c (.o (.own 0))), (12, [], .c (.o (.val (.int .i64 x.1)))), (13, [], .c (.o (.val (.int .i64 x.2.1))))], [], [.row .u8 5 x.2.2]⟩) (ko := fun r => kx 8 ⟨[(5, [], .c (.o (.val (.string x_)))), (6, [], .c (.o (.val (.string u)))), (11, [], .c (.o (.own 0))), (12, [], .c (.o (.val (.int .i64 r.1))))], [], [.row .u8 5 r.2]⟩) ?_ ?_ (c, i, out)
  · intro x; kernel_rfl
  · intro x ki; simp only [signetlaw2_sum_p4_step, -eq_self, bind_cond, bind_gd, Option.bind_assoc, Option.bind_some, Sum.elim_inl, Sum.elim_inr, bind_elim]; kernel_rfl
theorem signetlaw2_sum_sub4 : SubOK signetlaw2_sum_L signetlaw2_sum_G 0 15 122 4 signetlaw2_sum_b4 := sub_ok' signetlaw2_sum_d4 (fun x R kn kx kr => (signetlaw2_sum_p4 x.1.2.2.1 x.1.2.2.2.1 x.1.2.2.2.2.2.1 x.1.2.2.2.2.2.2.1 x.2.1).bind fun r => kx 8 ⟨[(5, [], .c (.o (.val (.string x.1.1)))), (6, [], .c (.o (.val (.string x.1.2.1)))), (11, [], .c (.o (.own 0))), (12, [], .c (.o (.val (.int .i64 r.1))))], [], [.row .u8 5 r.2]⟩) (by kernel_rfl) fun x R kn kx kr => signetlaw2_sum_p4_eq x.1.1 x.1.2.1 x.1.2.2.1 x.1.2.2.2.1 x.1.2.2.2.2.2.1 x.1.2.2.2.2.2.2.1 x.2.1 R kn kx kr
theorem signetlaw2_sum_p6_eq (x_ : ByteArray) (u : ByteArray) (s : ByteArray) (out : List Int) (R : Type) (kn : QS → Option R) (kx : Nat → QS → Option R) (kr : QS → Option R) :
    interpQ signetlaw2_sum_L signetlaw2_sum_G 0 15 122 signetlaw2_sum_b6 ⟨[(5, [], .c (.o (.val (.string x_)))), (6, [], .c (.o (.val (.string u)))), (11, [], .c (.o (.own 0))), (14, [], .c (.o (.val (.string s))))], [], [.row .u8 5 out]⟩ kn kx kr = (signetlaw2_sum_p6 s).bind fun r => kx 10 ⟨[(5, [], .c (.o (.val (.string x_)))), (6, [], .c (.o (.val (.string u)))), (11, [], .c (.o (.own 0))), (14, [], .c (.o (.val (.string r))))], [], [.row .u8 5 out]⟩ := by
  refine loop_piece (step := fun x => signetlaw2_sum_p6_step x) (enc := fun x => ⟨[(5, [], .c (.o (.val (.string x_)))), (6, [], .c (.o (.val (.string u)))), (11, [], .c (.o (.own 0))), (14, [], .c (.o (.val (.string x))))], [], [.row .u8 5 out]⟩) (ko := fun r => kx 10 ⟨[(5, [], .c (.o (.val (.string x_)))), (6, [], .c (.o (.val (.string u)))), (11, [], .c (.o (.own 0))), (14, [], .c (.o (.val (.string r))))], [], [.row .u8 5 out]⟩) ?_ ?_ s
  · intro x; kernel_rfl
  · intro x ki; simp only [signetlaw2_sum_p6_step, -eq_self, bind_cond, bind_gd, Option.bind_assoc, Option.bind_some, Sum.elim_inl, Sum.elim_inr, bind_elim]; kernel_rfl
theorem signetlaw2_sum_sub6 : SubOK signetlaw2_sum_L signetlaw2_sum_G 0 15 122 6 signetlaw2_sum_b6 := sub_ok' signetlaw2_sum_d6 (fun x R kn kx kr => (signetlaw2_sum_p6 x.1.2.2.2.1).bind fun r => kx 10 ⟨[(5, [], .c (.o (.val (.string x.1.1)))), (6, [], .c (.o (.val (.string x.1.2.1)))), (11, [], .c (.o (.own 0))), (14, [], .c (.o (.val (.string r))))], [], [.row .u8 5 x.2.1]⟩) (by kernel_rfl) fun x R kn kx kr => signetlaw2_sum_p6_eq x.1.1 x.1.2.1 x.1.2.2.2.1 x.2.1 R kn kx kr
theorem signetlaw2_sum_p5_eq (x_ : ByteArray) (u : ByteArray) (s : ByteArray) (out : List Int) (R : Type) (kn : QS → Option R) (kx : Nat → QS → Option R) (kr : QS → Option R) :
    interpQ signetlaw2_sum_L signetlaw2_sum_G 0 15 122 signetlaw2_sum_b5 ⟨[(5, [], .c (.o (.val (.string x_)))), (6, [], .c (.o (.val (.string u)))), (11, [], .c (.o (.own 0))), (14, [], .c (.o (.val (.string s))))], [], [.row .u8 5 out]⟩ kn kx kr = (signetlaw2_sum_p5 x_ u s out).bind fun r => kr ⟨[(4, [], .c (.o (.val (.string r))))], [], []⟩ := by
  simp only [signetlaw2_sum_p5, -eq_self, bind_cond, bind_gd, Option.bind_assoc, Option.bind_some, Sum.elim_inl, Sum.elim_inr, bind_elim]
  kernel_rfl
theorem signetlaw2_sum_sub5 : SubOK signetlaw2_sum_L signetlaw2_sum_G 0 15 122 5 signetlaw2_sum_b5 := sub_ok' signetlaw2_sum_d5 (fun x R kn kx kr => (signetlaw2_sum_p5 x.1.1 x.1.2.1 x.1.2.2.2.1 x.2.1).bind fun r => kr ⟨[(4, [], .c (.o (.val (.string r))))], [], []⟩) (by kernel_rfl) fun x R kn kx kr => signetlaw2_sum_p5_eq x.1.1 x.1.2.1 x.1.2.2.2.1 x.2.1 R kn kx kr
theorem signetlaw2_sum_subs : subsOK signetlaw2_sum_L signetlaw2_sum_G 0 15 122 signetlaw2_sum_q := subs_of (show AllSub signetlaw2_sum_L signetlaw2_sum_G 0 15 122 [(0, signetlaw2_sum_b0), (1, signetlaw2_sum_b1), (2, signetlaw2_sum_b2), (3, signetlaw2_sum_b3), (4, signetlaw2_sum_b4), (5, signetlaw2_sum_b5), (6, signetlaw2_sum_b6)] from ⟨signetlaw2_sum_sub0, signetlaw2_sum_sub1, signetlaw2_sum_sub2, signetlaw2_sum_sub3, signetlaw2_sum_sub4, signetlaw2_sum_sub5, signetlaw2_sum_sub6, trivial⟩)
theorem signetlaw2_sum_eq (a : ByteArray) (b : ByteArray) (R : Type) (k : SV → List SB → Option R) :
    fnQ signetlaw2_sum_L signetlaw2_sum_G 15 122 signetlaw2_sum_q [.tmp 4] [.c (.o (.val (.string a))), .c (.o (.val (.string b)))] [] k = (signetlaw2_sum_s a b).bind fun r => k (.c (.o (.val (.string r)))) [] := by
  simp only [signetlaw2_sum_s, -eq_self, bind_cond, bind_gd, Option.bind_assoc, Option.bind_some, Sum.elim_inl, Sum.elim_inr, bind_elim]
  kernel_rfl
def signetlaw2_sum_da := (dCons (dVC (dCO dS)) (dCons (dVC (dCO dS)) dNil))
def signetlaw2_sum_db := (dNil : Dec Unit (List SB))
noncomputable def signetlaw2_sum_c : CS := fun args hp R k => (Dec.d signetlaw2_sum_da args).bind fun x => (Dec.d signetlaw2_sum_db hp).bind fun y => (signetlaw2_sum_s x.1 x.2.1).bind fun r => k (.c (.o (.val (.string r)))) []
theorem signetlaw2_sum_val : ValidS Tryd.prog 27 signetlaw2_sum_c :=
  val_ok signetlaw2_sum_chk 15 signetlaw2_sum_Gok signetlaw2_sum_da signetlaw2_sum_db 0 (fun x y R k => (signetlaw2_sum_s x.1 x.2.1).bind fun r => k (.c (.o (.val (.string r)))) []) (by kernel_rfl)
    (fun x y R k => by simp only [Option.bind_assoc, Option.bind_some]) (fun x => Nat.le_of_ble_eq_true rfl) (fun y => rfl) signetlaw2_sum_subs fun x y => signetlaw2_sum_eq x.1 x.2.1 _ _
noncomputable def signetlaw2_sum_w : CQ := liftV [] signetlaw2_sum_c
theorem signetlaw2_sum_ok : ValidQ Tryd.prog 27 signetlaw2_sum_w := liftV_valid signetlaw2_sum_val

/-! ### signet/signetlaw2.twice -/
def signetlaw2_twice_b0 : IQ :=
  (.loop [0, 1, 6, 7, 8]
    (.seq
    (.seq
    (.reg 20 none [
      ⟨(some 17), .mv (.t 8), none⟩,
      ⟨(some 18), .mv (.t 0), none⟩,
      ⟨(some 19), .lenS (.t 18), none⟩,
      ⟨(some 20), .bin false .lss (.t 17) (.t 19), none⟩])
    (.cond (.t 20)
      .skip
      (.canon [] [1, 6, 7] (.exit 0))))
    (.seq
    (.block 1
      (.seq
      (.reg 38 none [
        ⟨(some 23), .mv (.t 0), none⟩,
        ⟨(some 24), .mv (.t 8), none⟩,
        ⟨(some 25), .index (.t 23) (.t 24), none⟩,
        ⟨(some 26), .bin false .neq (.t 25) (.v (.int .u8 46)), none⟩,
        ⟨(some 27), .mv (.t 26), none⟩,
        ⟨(some 28), .mv (.t 0), some (27, true)⟩,
        ⟨(some 29), .mv (.t 8), some (27, true)⟩,
        ⟨(some 30), .index (.t 28) (.t 29), some (27, true)⟩,
        ⟨(some 31), .bin false .lss (.t 30) (.v (.int .u8 48)), some (27, true)⟩,
        ⟨(some 32), .mv (.t 31), some (27, true)⟩,
        ⟨(some 33), .mv (.t 0), some (32, false)⟩,
        ⟨(some 34), .mv (.t 8), some (32, false)⟩,
        ⟨(some 35), .index (.t 33) (.t 34), some (32, false)⟩,
        ⟨(some 36), .bin false .gtr (.t 35) (.v (.int .u8 57)), some (32, false)⟩,
        ⟨(some 37), .pick (.t 32) (.v (.bool true)) (.t 36), some (27, true)⟩,
        ⟨(some 38), .pick (.t 27) (.t 37) (.v (.bool false)), none⟩])
      (.cond (.t 38)
        (.seq
        (.reg 5 none [
          ⟨(some 4), .mv (.v (.int .i64 0)), none⟩,
          ⟨(some 5), .mv (.v (.bool false)), none⟩])
        (.canon [] [4, 5] .ret))
        .skip)))
    (.reg 8 none [
      ⟨(some 21), .mv (.t 8), none⟩,
      ⟨(some 22), .bin false .add (.t 21) (.v (.int .i64 1)), none⟩,
      ⟨(some 8), .mv (.t 22), none⟩]))))
def signetlaw2_twice_b1 : IQ :=
  (.seq
  (.reg 11 none [
    ⟨(some 47), .mv (.t 9), none⟩,
    ⟨(some 48), .mv (.t 9), none⟩,
    ⟨(some 49), .call 27 [(.t 47), (.t 48)], none⟩,
    ⟨(some 50), .mv (.t 1), none⟩,
    ⟨(some 51), .call 19 [(.t 49), (.t 50)], none⟩,
    ⟨(some 46), .mv (.t 51), none⟩,
    ⟨(some 52), .extract (.t 46) 0, none⟩,
    ⟨(some 53), .extract (.t 46) 1, none⟩,
    ⟨(some 10), .mv (.t 52), none⟩,
    ⟨(some 11), .mv (.t 53), none⟩])
  (.seq
  (.reg 5 none [
    ⟨(some 54), .mv (.t 10), none⟩,
    ⟨(some 55), .mv (.t 11), none⟩,
    ⟨(some 56), .bin false .eql (.t 55) (.v (.int .i64 0)), none⟩,
    ⟨(some 4), .mv (.t 54), none⟩,
    ⟨(some 5), .mv (.t 56), none⟩])
  (.canon [] [4, 5] .ret)))
def signetlaw2_twice_q : IQ :=
  (.seq
  (.reg 5 none [
    ⟨(some 4), .mv (.v (.int .i64 0)), none⟩,
    ⟨(some 5), .mv (.v (.bool false)), none⟩])
  (.seq
  (.reg 7 none [
    ⟨(some 13), .mv (.t 0), none⟩,
    ⟨(some 14), .call 29 [(.t 13)], none⟩,
    ⟨(some 12), .mv (.t 14), none⟩,
    ⟨(some 15), .extract (.t 12) 0, none⟩,
    ⟨(some 16), .extract (.t 12) 1, none⟩,
    ⟨(some 6), .mv (.t 15), none⟩,
    ⟨(some 7), .mv (.t 16), none⟩])
  (.seq
  (.seq
  (.reg 8 none [
    ⟨(some 8), .mv (.v (.int .i64 0)), none⟩])
  (.block 0
    (.canon [] [0, 1, 6, 7, 8] (.sub 0 signetlaw2_twice_b0))))
  (.seq
  (.reg 9 none [
    ⟨(some 39), .mv (.t 6), none⟩,
    ⟨(some 9), .mv (.t 39), none⟩])
  (.seq
  (.seq
  (.reg 41 none [
    ⟨(some 40), .mv (.t 7), none⟩,
    ⟨(some 41), .bin false .neq (.t 40) (.v (.string ⟨#[]⟩)), none⟩])
  (.cond (.t 41)
    (.reg 9 none [
      ⟨(some 42), .mv (.t 6), none⟩,
      ⟨(some 43), .bin false .add (.t 42) (.v (.string ⟨#[46]⟩)), none⟩,
      ⟨(some 44), .mv (.t 7), none⟩,
      ⟨(some 45), .bin false .add (.t 43) (.t 44), none⟩,
      ⟨(some 9), .mv (.t 45), none⟩])
    .skip))
  (.canon [] [1, 9] (.sub 1 signetlaw2_twice_b1)))))))
theorem signetlaw2_twice_chk : chk Tryd.prog 26 [] = some (signetlaw2_twice_q.erase, [.tmp 4, .tmp 5], 57) := by kernel_rfl
noncomputable def signetlaw2_twice_p0_step (text : ByteArray) (i : Int) : Option (Int ⊕ ((Int × Bool) ⊕ Unit)) :=
  bif decide (i < (text.size : Int)) then (
    gd (0 ≤ i ∧ i < text.size) <|
    gd ((!decide ((bAt text i) = (46 : Int))) = true → 0 ≤ i ∧ i < text.size) <|
    gd ((decide ((bAt text i) < (48 : Int))) = false → (!decide ((bAt text i) = (46 : Int))) = true → 0 ≤ i ∧ i < text.size) <|
    bif ((!decide ((bAt text i) = (46 : Int))) && ((decide ((bAt text i) < (48 : Int))) || (decide ((57 : Int) < (bAt text i))))) then (
      some (.inr (.inl ((0 : Int), false))))
    else (
      gd (InI64 (i + (1 : Int))) <|
      some (.inl (i + (1 : Int)))))
  else (
    some (.inr (.inr ())))
noncomputable def signetlaw2_twice_p0 (text : ByteArray) (i : Int) : Option ((Int × Bool) ⊕ Unit) :=
  whileO (fun x : Int => signetlaw2_twice_p0_step text x) i
noncomputable def signetlaw2_twice_p1 (of : ByteArray) (t : ByteArray) : Option (Int × Bool) :=
  (signetlaw2_sum_s t t).bind fun r4 =>
  (decimal_Compare_s r4 of).bind fun r5 =>
  some (r5.1, decide (r5.2 = (0 : Int)))
noncomputable def signetlaw2_twice_s (text : ByteArray) (of : ByteArray) : Option (Int × Bool) :=
  (signetlaw2_cut_s text).bind fun r2 =>
  (signetlaw2_twice_p0 text (0 : Int)).bind fun o3 => (Sum.elim (fun (o3_0 : Int × Bool) =>
    some (o3_0.1, o3_0.2)) (fun (o3_1 : Unit) =>
    bif (!decide (r2.2 = (⟨#[]⟩ : ByteArray))) then (
      gd (r2.1.size + (⟨#[46]⟩ : ByteArray).size ≤ 9223372036854775807) <|
      gd ((r2.1 ++ (⟨#[46]⟩ : ByteArray)).size + r2.2.size ≤ 9223372036854775807) <|
      (signetlaw2_twice_p1 of ((r2.1 ++ (⟨#[46]⟩ : ByteArray)) ++ r2.2)).bind fun o6 =>
      some (o6.1, o6.2))
    else (
      (signetlaw2_twice_p1 of r2.1).bind fun o7 =>
      some (o7.1, o7.2)))) o3
noncomputable def signetlaw2_twice_G : Nat → Option CQ := tblQ [(29, signetlaw2_cut_w), (27, signetlaw2_sum_w), (19, decimal_Compare_w)]
theorem signetlaw2_twice_Gok : ∀ f C, signetlaw2_twice_G f = some C → ValidQ Tryd.prog f C := tblQ_valid ⟨signetlaw2_cut_ok, signetlaw2_sum_ok, decimal_Compare_ok, trivial⟩
def signetlaw2_twice_d0 := (dQS (dCons (dSl 0 (dVC (dCO dS))) (dCons (dSl 1 (dVC (dCO dS))) (dCons (dSl 6 (dVC (dCO dS))) (dCons (dSl 7 (dVC (dCO dS))) (dCons (dSl 8 (dVC (dCO (dI .i64)))) dNil))))) dNil)
noncomputable def signetlaw2_twice_l0 : SubQ := fun S R kn kx kr => (Dec.d signetlaw2_twice_d0 S).bind fun x => (signetlaw2_twice_p0 x.1.1 x.1.2.2.2.2.1).bind fun r => (Sum.elim (fun (r_0 : Int × Bool) => kr ⟨[(4, [], .c (.o (.val (.int .i64 r_0.1)))), (5, [], .c (.o (.val (.bool r_0.2))))], [], []⟩) (fun (r_1 : Unit) => kx 0 ⟨[(1, [], .c (.o (.val (.string x.1.2.1)))), (6, [], .c (.o (.val (.string x.1.2.2.1)))), (7, [], .c (.o (.val (.string x.1.2.2.2.1))))], [], []⟩)) r
def signetlaw2_twice_d1 := (dQS (dCons (dSl 1 (dVC (dCO dS))) (dCons (dSl 9 (dVC (dCO dS))) dNil)) dNil)
noncomputable def signetlaw2_twice_l1 : SubQ := fun S R kn kx kr => (Dec.d signetlaw2_twice_d1 S).bind fun x => (signetlaw2_twice_p1 x.1.1 x.1.2.1).bind fun r => kr ⟨[(4, [], .c (.o (.val (.int .i64 r.1)))), (5, [], .c (.o (.val (.bool r.2))))], [], []⟩
noncomputable def signetlaw2_twice_L : Nat → SubQ := tblL [(0, signetlaw2_twice_l0), (1, signetlaw2_twice_l1)]
theorem signetlaw2_twice_p0_eq (text : ByteArray) (of : ByteArray) (x_ : ByteArray) (u : ByteArray) (i : Int) (R : Type) (kn : QS → Option R) (kx : Nat → QS → Option R) (kr : QS → Option R) :
    interpQ signetlaw2_twice_L signetlaw2_twice_G 0 12 57 signetlaw2_twice_b0 ⟨[(0, [], .c (.o (.val (.string text)))), (1, [], .c (.o (.val (.string of)))), (6, [], .c (.o (.val (.string x_)))), (7, [], .c (.o (.val (.string u)))), (8, [], .c (.o (.val (.int .i64 i))))], [], []⟩ kn kx kr = (signetlaw2_twice_p0 text i).bind fun r => (Sum.elim (fun (r_0 : Int × Bool) => kr ⟨[(4, [], .c (.o (.val (.int .i64 r_0.1)))), (5, [], .c (.o (.val (.bool r_0.2))))], [], []⟩) (fun (r_1 : Unit) => kx 0 ⟨[(1, [], .c (.o (.val (.string of)))), (6, [], .c (.o (.val (.string x_)))), (7, [], .c (.o (.val (.string u))))], [], []⟩)) r := by
  refine loop_piece (step := fun x => signetlaw2_twice_p0_step text x) (enc := fun x => ⟨[(0, [], .c (.o (.val (.string text)))), (1, [], .c (.o (.val (.string of)))), (6, [], .c (.o (.val (.string x_)))), (7, [], .c (.o (.val (.string u)))), (8, [], .c (.o (.val (.int .i64 x))))], [], []⟩) (ko := fun r => (Sum.elim (fun (r_0 : Int × Bool) => kr ⟨[(4, [], .c (.o (.val (.int .i64 r_0.1)))), (5, [], .c (.o (.val (.bool r_0.2))))], [], []⟩) (fun (r_1 : Unit) => kx 0 ⟨[(1, [], .c (.o (.val (.string of)))), (6, [], .c (.o (.val (.string x_)))), (7, [], .c (.o (.val (.string u))))], [], []⟩)) r) ?_ ?_ i
  · intro x; kernel_rfl
  · intro x ki; simp only [signetlaw2_twice_p0_step, -eq_self, bind_cond, bind_gd, Option.bind_assoc, Option.bind_some, Sum.elim_inl, Sum.elim_inr, bind_elim]; kernel_rfl
theorem signetlaw2_twice_sub0 : SubOK signetlaw2_twice_L signetlaw2_twice_G 0 12 57 0 signetlaw2_twice_b0 := sub_ok' signetlaw2_twice_d0 (fun x R kn kx kr => (signetlaw2_twice_p0 x.1.1 x.1.2.2.2.2.1).bind fun r => (Sum.elim (fun (r_0 : Int × Bool) => kr ⟨[(4, [], .c (.o (.val (.int .i64 r_0.1)))), (5, [], .c (.o (.val (.bool r_0.2))))], [], []⟩) (fun (r_1 : Unit) => kx 0 ⟨[(1, [], .c (.o (.val (.string x.1.2.1)))), (6, [], .c (.o (.val (.string x.1.2.2.1)))), (7, [], .c (.o (.val (.string x.1.2.2.2.1))))], [], []⟩)) r) (by kernel_rfl) fun x R kn kx kr => signetlaw2_twice_p0_eq x.1.1 x.1.2.1 x.1.2.2.1 x.1.2.2.2.1 x.1.2.2.2.2.1 R kn kx kr
theorem signetlaw2_twice_p1_eq (of : ByteArray) (t : ByteArray) (R : Type) (kn : QS → Option R) (kx : Nat → QS → Option R) (kr : QS → Option R) :
    interpQ signetlaw2_twice_L signetlaw2_twice_G 0 12 57 signetlaw2_twice_b1 ⟨[(1, [], .c (.o (.val (.string of)))), (9, [], .c (.o (.val (.string t))))], [], []⟩ kn kx kr = (signetlaw2_twice_p1 of t).bind fun r => kr ⟨[(4, [], .c (.o (.val (.int .i64 r.1)))), (5, [], .c (.o (.val (.bool r.2))))], [], []⟩ := by
  simp only [signetlaw2_twice_p1, -eq_self, bind_cond, bind_gd, Option.bind_assoc, Option.bind_some, Sum.elim_inl, Sum.elim_inr, bind_elim]
  kernel_rfl
theorem signetlaw2_twice_sub1 : SubOK signetlaw2_twice_L signetlaw2_twice_G 0 12 57 1 signetlaw2_twice_b1 := sub_ok' signetlaw2_twice_d1 (fun x R kn kx kr => (signetlaw2_twice_p1 x.1.1 x.1.2.1).bind fun r => kr ⟨[(4, [], .c (.o (.val (.int .i64 r.1)))), (5, [], .c (.o (.val (.bool r.2))))], [], []⟩) (by kernel_rfl) fun x R kn kx kr => signetlaw2_twice_p1_eq x.1.1 x.1.2.1 R kn kx kr
theorem signetlaw2_twice_subs : subsOK signetlaw2_twice_L signetlaw2_twice_G 0 12 57 signetlaw2_twice_q := subs_of (show AllSub signetlaw2_twice_L signetlaw2_twice_G 0 12 57 [(0, signetlaw2_twice_b0), (1, signetlaw2_twice_b1)] from ⟨signetlaw2_twice_sub0, signetlaw2_twice_sub1, trivial⟩)
theorem signetlaw2_twice_eq (text : ByteArray) (of : ByteArray) (R : Type) (k : SV → List SB → Option R) :
    fnQ signetlaw2_twice_L signetlaw2_twice_G 12 57 signetlaw2_twice_q [.tmp 4, .tmp 5] [.c (.o (.val (.string text))), .c (.o (.val (.string of)))] [] k = (signetlaw2_twice_s text of).bind fun r => k (.tup [.o (.val (.int .i64 r.1)), .o (.val (.bool r.2))]) [] := by
  simp only [signetlaw2_twice_s, -eq_self, bind_cond, bind_gd, Option.bind_assoc, Option.bind_some, Sum.elim_inl, Sum.elim_inr, bind_elim]
  kernel_rfl
def signetlaw2_twice_da := (dCons (dVC (dCO dS)) (dCons (dVC (dCO dS)) dNil))
def signetlaw2_twice_db := (dNil : Dec Unit (List SB))
noncomputable def signetlaw2_twice_c : CS := fun args hp R k => (Dec.d signetlaw2_twice_da args).bind fun x => (Dec.d signetlaw2_twice_db hp).bind fun y => (signetlaw2_twice_s x.1 x.2.1).bind fun r => k (.tup [.o (.val (.int .i64 r.1)), .o (.val (.bool r.2))]) []
theorem signetlaw2_twice_val : ValidS Tryd.prog 26 signetlaw2_twice_c :=
  val_ok signetlaw2_twice_chk 12 signetlaw2_twice_Gok signetlaw2_twice_da signetlaw2_twice_db 0 (fun x y R k => (signetlaw2_twice_s x.1 x.2.1).bind fun r => k (.tup [.o (.val (.int .i64 r.1)), .o (.val (.bool r.2))]) []) (by kernel_rfl)
    (fun x y R k => by simp only [Option.bind_assoc, Option.bind_some]) (fun x => Nat.le_of_ble_eq_true rfl) (fun y => rfl) signetlaw2_twice_subs fun x y => signetlaw2_twice_eq x.1 x.2.1 _ _
noncomputable def signetlaw2_twice_w : CQ := liftV [] signetlaw2_twice_c
theorem signetlaw2_twice_ok : ValidQ Tryd.prog 26 signetlaw2_twice_w := liftV_valid signetlaw2_twice_val

/-! ### signet/signetlaw2.DecimalNearest -/
def signetlaw2_DecimalNearest_b0 : IQ :=
  (.seq
  (.seq
  (.reg 60 none [
    ⟨(some 59), .mv (.t 3), none⟩,
    ⟨(some 60), .bin false .lss (.t 59) (.v (.int .u32 2139095040)), none⟩])
  (.cond (.t 60)
    (.seq
    (.reg 8 none [
      ⟨(some 62), .mv (.t 0), none⟩,
      ⟨(some 63), .mv (.t 3), none⟩,
      ⟨(some 64), .call 28 [(.t 63)], none⟩,
      ⟨(some 65), .mv (.t 3), none⟩,
      ⟨(some 66), .bin false .add (.t 65) (.v (.int .u32 1)), none⟩,
      ⟨(some 67), .call 28 [(.t 66)], none⟩,
      ⟨(some 68), .call 27 [(.t 64), (.t 67)], none⟩,
      ⟨(some 69), .call 26 [(.t 62), (.t 68)], none⟩,
      ⟨(some 61), .mv (.t 69), none⟩,
      ⟨(some 70), .extract (.t 61) 0, none⟩,
      ⟨(some 71), .extract (.t 61) 1, none⟩,
      ⟨(some 7), .mv (.t 70), none⟩,
      ⟨(some 8), .mv (.t 71), none⟩])
    (.seq
    (.reg 85 none [
      ⟨(some 72), .mv (.t 8), none⟩,
      ⟨(some 73), .mv (.t 72), none⟩,
      ⟨(some 74), .mv (.t 7), some (73, true)⟩,
      ⟨(some 75), .bin false .gtr (.t 74) (.v (.int .i64 0)), some (73, true)⟩,
      ⟨(some 76), .mv (.t 75), some (73, true)⟩,
      ⟨(some 77), .mv (.t 7), some (76, false)⟩,
      ⟨(some 78), .bin false .eql (.t 77) (.v (.int .i64 0)), some (76, false)⟩,
      ⟨(some 79), .mv (.t 78), some (76, false)⟩,
      ⟨(some 80), .mv (.t 3), some (79, true)⟩,
      ⟨(some 81), .bin false .rem (.t 80) (.v (.int .u32 2)), some (79, true)⟩,
      ⟨(some 82), .bin false .eql (.t 81) (.v (.int .u32 1)), some (79, true)⟩,
      ⟨(some 83), .pick (.t 79) (.t 82) (.v (.bool false)), some (76, false)⟩,
      ⟨(some 84), .pick (.t 76) (.v (.bool true)) (.t 83), some (73, true)⟩,
      ⟨(some 85), .pick (.t 73) (.t 84) (.v (.bool false)), none⟩])
    (.cond (.t 85)
      (.seq
      (.reg 2 none [
        ⟨(some 2), .mv (.v (.bool false)), none⟩])
      (.canon [] [2] .ret))
      .skip)))
    .skip))
  (.seq
  (.reg 2 none [
    ⟨(some 2), .mv (.v (.bool true)), none⟩])
  (.canon [] [2] .ret)))
def signetlaw2_DecimalNearest_q : IQ :=
  (.seq
  (.reg 2 none [
    ⟨(some 2), .mv (.v (.bool false)), none⟩])
  (.seq
  (.seq
  (.reg 10 none [
    ⟨(some 9), .call 23 [], none⟩,
    ⟨(some 10), .un .not (.t 9), none⟩])
  (.cond (.t 10)
    (.seq
    (.reg 2 none [
      ⟨(some 2), .mv (.v (.bool false)), none⟩])
    (.canon [] [2] .ret))
    .skip))
  (.seq
  (.reg 4 none [
    ⟨(some 12), .mv (.t 0), none⟩,
    ⟨(some 13), .call 21 [(.t 12)], none⟩,
    ⟨(some 11), .mv (.t 13), none⟩,
    ⟨(some 14), .extract (.t 11) 0, none⟩,
    ⟨(some 15), .extract (.t 11) 1, none⟩,
    ⟨(some 3), .mv (.t 14), none⟩,
    ⟨(some 4), .mv (.t 15), none⟩])
  (.seq
  (.seq
  (.reg 18 none [
    ⟨(some 16), .mv (.t 0), none⟩,
    ⟨(some 17), .call 17 [(.t 16)], none⟩,
    ⟨(some 18), .un .not (.t 17), none⟩])
  (.cond (.t 18)
    (.seq
    (.reg 2 none [
      ⟨(some 19), .mv (.t 4), none⟩,
      ⟨(some 20), .bin false .eql (.t 19) (.v (.int .i64 30)), none⟩,
      ⟨(some 21), .mv (.t 20), none⟩,
      ⟨(some 22), .mv (.t 3), some (21, true)⟩,
      ⟨(some 23), .bin false .eql (.t 22) (.v (.int .u32 0)), some (21, true)⟩,
      ⟨(some 24), .pick (.t 21) (.t 23) (.v (.bool false)), none⟩,
      ⟨(some 2), .mv (.t 24), none⟩])
    (.canon [] [2] .ret))
    .skip))
  (.seq
  (.seq
  (.reg 26 none [
    ⟨(some 25), .mv (.t 4), none⟩,
    ⟨(some 26), .bin false .neq (.t 25) (.v (.int .i64 0)), none⟩])
  (.cond (.t 26)
    (.seq
    (.reg 2 none [
      ⟨(some 2), .mv (.v (.bool false)), none⟩])
    (.canon [] [2] .ret))
    .skip))
  (.seq
  (.seq
  (.reg 28 none [
    ⟨(some 27), .mv (.t 3), none⟩,
    ⟨(some 28), .bin false .gtr (.t 27) (.v (.int .u32 2139095040)), none⟩])
  (.cond (.t 28)
    (.seq
    (.reg 2 none [
      ⟨(some 29), .mv (.t 0), none⟩,
      ⟨(some 30), .index (.t 29) (.v (.int .i64 0)), none⟩,
      ⟨(some 31), .bin false .eql (.t 30) (.v (.int .u8 45)), none⟩,
      ⟨(some 2), .mv (.t 31), none⟩])
    (.canon [] [2] .ret))
    .skip))
  (.seq
  (.seq
  (.reg 33 none [
    ⟨(some 32), .mv (.t 3), none⟩,
    ⟨(some 33), .bin false .gtr (.t 32) (.v (.int .u32 0)), none⟩])
  (.cond (.t 33)
    (.seq
    (.reg 6 none [
      ⟨(some 35), .mv (.t 0), none⟩,
      ⟨(some 36), .mv (.t 3), none⟩,
      ⟨(some 37), .bin false .sub (.t 36) (.v (.int .u32 1)), none⟩,
      ⟨(some 38), .call 28 [(.t 37)], none⟩,
      ⟨(some 39), .mv (.t 3), none⟩,
      ⟨(some 40), .call 28 [(.t 39)], none⟩,
      ⟨(some 41), .call 27 [(.t 38), (.t 40)], none⟩,
      ⟨(some 42), .call 26 [(.t 35), (.t 41)], none⟩,
      ⟨(some 34), .mv (.t 42), none⟩,
      ⟨(some 43), .extract (.t 34) 0, none⟩,
      ⟨(some 44), .extract (.t 34) 1, none⟩,
      ⟨(some 5), .mv (.t 43), none⟩,
      ⟨(some 6), .mv (.t 44), none⟩])
    (.seq
    (.reg 58 none [
      ⟨(some 45), .mv (.t 6), none⟩,
      ⟨(some 46), .mv (.t 45), none⟩,
      ⟨(some 47), .mv (.t 5), some (46, true)⟩,
      ⟨(some 48), .bin false .lss (.t 47) (.v (.int .i64 0)), some (46, true)⟩,
      ⟨(some 49), .mv (.t 48), some (46, true)⟩,
      ⟨(some 50), .mv (.t 5), some (49, false)⟩,
      ⟨(some 51), .bin false .eql (.t 50) (.v (.int .i64 0)), some (49, false)⟩,
      ⟨(some 52), .mv (.t 51), some (49, false)⟩,
      ⟨(some 53), .mv (.t 3), some (52, true)⟩,
      ⟨(some 54), .bin false .rem (.t 53) (.v (.int .u32 2)), some (52, true)⟩,
      ⟨(some 55), .bin false .eql (.t 54) (.v (.int .u32 1)), some (52, true)⟩,
      ⟨(some 56), .pick (.t 52) (.t 55) (.v (.bool false)), some (49, false)⟩,
      ⟨(some 57), .pick (.t 49) (.v (.bool true)) (.t 56), some (46, true)⟩,
      ⟨(some 58), .pick (.t 46) (.t 57) (.v (.bool false)), none⟩])
    (.cond (.t 58)
      (.seq
      (.reg 2 none [
        ⟨(some 2), .mv (.v (.bool false)), none⟩])
      (.canon [] [2] .ret))
      .skip)))
    .skip))
  (.canon [] [0, 3] (.sub 0 signetlaw2_DecimalNearest_b0)))))))))
theorem signetlaw2_DecimalNearest_chk : chk Tryd.prog 9 [] = some (signetlaw2_DecimalNearest_q.erase, [.tmp 2], 86) := by kernel_rfl
noncomputable def signetlaw2_DecimalNearest_p0 (text : ByteArray) (b : Int) : Option Bool :=
  bif decide (b < (2139095040 : Int)) then (
    (signetlaw2_value_s b).bind fun r8 =>
    (signetlaw2_value_s ((b + (1 : Int)) % 4294967296)).bind fun r9 =>
    (signetlaw2_sum_s r8 r9).bind fun r10 =>
    (signetlaw2_twice_s text r10).bind fun r11 =>
    gd ((decide (r11.1 = (0 : Int))) = true → (decide ((0 : Int) < r11.1)) = false → r11.2 = true → 0 ≤ b ∧ 1 ≤ (2 : Int)) <|
    bif (r11.2 && ((decide ((0 : Int) < r11.1)) || ((decide (r11.1 = (0 : Int))) && (decide ((b % (2 : Int)) = (1 : Int)))))) then (
      some false)
    else (
      some true))
  else (
    some true)
noncomputable def signetlaw2_DecimalNearest_s (text : ByteArray) : Option Bool :=
  (signetlaw2_started_s).bind fun r1 =>
  bif (!r1) then (
    some false)
  else (
    (decimal_Nearest_s text).bind fun r2 =>
    (decimal_Valid_s text).bind fun r3 =>
    bif (!r3) then (
      some ((decide (r2.2 = (30 : Int))) && (decide (r2.1 = (0 : Int)))))
    else (
      bif (!decide (r2.2 = (0 : Int))) then (
        some false)
      else (
        bif decide ((2139095040 : Int) < r2.1) then (
          gd (0 ≤ (0 : Int) ∧ (0 : Int) < text.size) <|
          some (decide ((bAt text (0 : Int)) = (45 : Int))))
        else (
          bif decide ((0 : Int) < r2.1) then (
            (signetlaw2_value_s ((r2.1 - (1 : Int)) % 4294967296)).bind fun r4 =>
            (signetlaw2_value_s r2.1).bind fun r5 =>
            (signetlaw2_sum_s r4 r5).bind fun r6 =>
            (signetlaw2_twice_s text r6).bind fun r7 =>
            gd ((decide (r7.1 = (0 : Int))) = true → (decide (r7.1 < (0 : Int))) = false → r7.2 = true → 0 ≤ r2.1 ∧ 1 ≤ (2 : Int)) <|
            bif (r7.2 && ((decide (r7.1 < (0 : Int))) || ((decide (r7.1 = (0 : Int))) && (decide ((r2.1 % (2 : Int)) = (1 : Int)))))) then (
              some false)
            else (
              (signetlaw2_DecimalNearest_p0 text r2.1).bind fun o12 =>
              some o12))
          else (
            (signetlaw2_DecimalNearest_p0 text r2.1).bind fun o13 =>
            some o13)))))
noncomputable def signetlaw2_DecimalNearest_G : Nat → Option CQ := tblQ [(23, signetlaw2_started_w), (21, decimal_Nearest_w), (17, decimal_Valid_w), (28, signetlaw2_value_w), (27, signetlaw2_sum_w), (26, signetlaw2_twice_w)]
theorem signetlaw2_DecimalNearest_Gok : ∀ f C, signetlaw2_DecimalNearest_G f = some C → ValidQ Tryd.prog f C := tblQ_valid ⟨signetlaw2_started_ok, decimal_Nearest_ok, decimal_Valid_ok, signetlaw2_value_ok, signetlaw2_sum_ok, signetlaw2_twice_ok, trivial⟩
def signetlaw2_DecimalNearest_d0 := (dQS (dCons (dSl 0 (dVC (dCO dS))) (dCons (dSl 3 (dVC (dCO (dI .u32)))) dNil)) dNil)
noncomputable def signetlaw2_DecimalNearest_l0 : SubQ := fun S R kn kx kr => (Dec.d signetlaw2_DecimalNearest_d0 S).bind fun x => (signetlaw2_DecimalNearest_p0 x.1.1 x.1.2.1).bind fun r => kr ⟨[(2, [], .c (.o (.val (.bool r))))], [], []⟩
noncomputable def signetlaw2_DecimalNearest_L : Nat → SubQ := tblL [(0, signetlaw2_DecimalNearest_l0)]
theorem signetlaw2_DecimalNearest_p0_eq (text : ByteArray) (b : Int) (R : Type) (kn : QS → Option R) (kx : Nat → QS → Option R) (kr : QS → Option R) :
    interpQ signetlaw2_DecimalNearest_L signetlaw2_DecimalNearest_G 0 9 86 signetlaw2_DecimalNearest_b0 ⟨[(0, [], .c (.o (.val (.string text)))), (3, [], .c (.o (.val (.int .u32 b))))], [], []⟩ kn kx kr = (signetlaw2_DecimalNearest_p0 text b).bind fun r => kr ⟨[(2, [], .c (.o (.val (.bool r))))], [], []⟩ := by
  simp only [signetlaw2_DecimalNearest_p0, -eq_self, bind_cond, bind_gd, Option.bind_assoc, Option.bind_some, Sum.elim_inl, Sum.elim_inr, bind_elim]
  kernel_rfl
theorem signetlaw2_DecimalNearest_sub0 : SubOK signetlaw2_DecimalNearest_L signetlaw2_DecimalNearest_G 0 9 86 0 signetlaw2_DecimalNearest_b0 := sub_ok' signetlaw2_DecimalNearest_d0 (fun x R kn kx kr => (signetlaw2_DecimalNearest_p0 x.1.1 x.1.2.1).bind fun r => kr ⟨[(2, [], .c (.o (.val (.bool r))))], [], []⟩) (by kernel_rfl) fun x R kn kx kr => signetlaw2_DecimalNearest_p0_eq x.1.1 x.1.2.1 R kn kx kr
theorem signetlaw2_DecimalNearest_subs : subsOK signetlaw2_DecimalNearest_L signetlaw2_DecimalNearest_G 0 9 86 signetlaw2_DecimalNearest_q := subs_of (show AllSub signetlaw2_DecimalNearest_L signetlaw2_DecimalNearest_G 0 9 86 [(0, signetlaw2_DecimalNearest_b0)] from ⟨signetlaw2_DecimalNearest_sub0, trivial⟩)
theorem signetlaw2_DecimalNearest_eq (text : ByteArray) (R : Type) (k : SV → List SB → Option R) :
    fnQ signetlaw2_DecimalNearest_L signetlaw2_DecimalNearest_G 9 86 signetlaw2_DecimalNearest_q [.tmp 2] [.c (.o (.val (.string text)))] [] k = (signetlaw2_DecimalNearest_s text).bind fun r => k (.c (.o (.val (.bool r)))) [] := by
  simp only [signetlaw2_DecimalNearest_s, -eq_self, bind_cond, bind_gd, Option.bind_assoc, Option.bind_some, Sum.elim_inl, Sum.elim_inr, bind_elim]
  kernel_rfl
def signetlaw2_DecimalNearest_da := (dCons (dVC (dCO dS)) dNil)
def signetlaw2_DecimalNearest_db := (dNil : Dec Unit (List SB))
noncomputable def signetlaw2_DecimalNearest_c : CS := fun args hp R k => (Dec.d signetlaw2_DecimalNearest_da args).bind fun x => (Dec.d signetlaw2_DecimalNearest_db hp).bind fun y => (signetlaw2_DecimalNearest_s x.1).bind fun r => k (.c (.o (.val (.bool r)))) []
theorem signetlaw2_DecimalNearest_val : ValidS Tryd.prog 9 signetlaw2_DecimalNearest_c :=
  val_ok signetlaw2_DecimalNearest_chk 9 signetlaw2_DecimalNearest_Gok signetlaw2_DecimalNearest_da signetlaw2_DecimalNearest_db 0 (fun x y R k => (signetlaw2_DecimalNearest_s x.1).bind fun r => k (.c (.o (.val (.bool r)))) []) (by kernel_rfl)
    (fun x y R k => by simp only [Option.bind_assoc, Option.bind_some]) (fun x => Nat.le_of_ble_eq_true rfl) (fun y => rfl) signetlaw2_DecimalNearest_subs fun x y => signetlaw2_DecimalNearest_eq x.1 _ _
end Go.Proofs.YtdibapfehdhfjaaDoor
