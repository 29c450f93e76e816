/-
  Functions as the engine reads them (printed by gen.py).
-/
import Derived.Test.YtdibapfehdhfjaaDoorEngO
import Derived.Test.YtdibapfehdhfjaaDoorProg
import Derived.Test.YtdibapfehdhfjaaDoorFmt
import Derived.Test.YtdibapfehdhfjaaDoorGC
import Derived.Test.YtdibapfehdhfjaaDoorGD
import Derived.Test.YtdibapfehdhfjaaDoorGE
namespace Go.Proofs.YtdibapfehdhfjaaDoor
open Go.Eng
set_option linter.unusedVariables false
set_option linter.unusedSimpArgs false
set_option maxRecDepth 100000
/-! ### signet/signetlaw2.DecimalWholes -/
/-! ### signet/signetlaw2.DecimalShifts -/
def signetlaw2_DecimalShifts_b0 : IQ :=
  (.loop [0, 1, 5]
    (.seq
    (.seq
    (.reg 37 none [
      ⟨(some 34), .mv (.t 5), none⟩,
      ⟨(some 35), .mv (.t 0), none⟩,
      ⟨(some 36), .lenS (.t 35), none⟩,
      ⟨(some 37), .bin false .lss (.t 34) (.t 36), none⟩])
    (.cond (.t 37)
      .skip
      (.canon [] [0, 1] (.exit 0))))
    (.seq
    (.block 1
      (.seq
      (.reg 55 none [
        ⟨(some 40), .mv (.t 0), none⟩,
        ⟨(some 41), .mv (.t 5), none⟩,
        ⟨(some 42), .index (.t 40) (.t 41), none⟩,
        ⟨(some 43), .bin false .eql (.t 42) (.v (.int .u8 46)), none⟩,
        ⟨(some 44), .mv (.t 43), none⟩,
        ⟨(some 45), .mv (.t 0), some (44, false)⟩,
        ⟨(some 46), .mv (.t 5), some (44, false)⟩,
        ⟨(some 47), .index (.t 45) (.t 46), some (44, false)⟩,
        ⟨(some 48), .bin false .eql (.t 47) (.v (.int .u8 101)), some (44, false)⟩,
        ⟨(some 49), .pick (.t 44) (.v (.bool true)) (.t 48), none⟩,
        ⟨(some 50), .mv (.t 49), none⟩,
        ⟨(some 51), .mv (.t 0), some (50, false)⟩,
        ⟨(some 52), .mv (.t 5), some (50, false)⟩,
        ⟨(some 53), .index (.t 51) (.t 52), some (50, false)⟩,
        ⟨(some 54), .bin false .eql (.t 53) (.v (.int .u8 69)), some (50, false)⟩,
        ⟨(some 55), .pick (.t 50) (.v (.bool true)) (.t 54), none⟩])
      (.cond (.t 55)
        (.seq
        (.reg 4 none [
          ⟨(some 4), .mv (.v (.bool true)), none⟩])
        (.canon [] [4] .ret))
        .skip)))
    (.reg 5 none [
      ⟨(some 38), .mv (.t 5), none⟩,
      ⟨(some 39), .bin false .add (.t 38) (.v (.int .i64 1)), none⟩,
      ⟨(some 5), .mv (.t 39), none⟩]))))
def signetlaw2_DecimalShifts_b1 : IQ :=
  (.loop [0, 1, 6, 7]
    (.seq
    (.seq
    (.reg 59 none [
      ⟨(some 57), .mv (.t 7), none⟩,
      ⟨(some 58), .mv (.t 1), none⟩,
      ⟨(some 59), .bin false .lss (.t 57) (.t 58), none⟩])
    (.cond (.t 59)
      .skip
      (.canon [] [0, 1, 6] (.exit 2))))
    (.seq
    (.block 3
      (.reg 6 none [
        ⟨(some 62), .mv (.t 6), none⟩,
        ⟨(some 63), .bin false .add (.t 62) (.v (.string ⟨#[48]⟩)), none⟩,
        ⟨(some 6), .mv (.t 63), none⟩]))
    (.reg 7 none [
      ⟨(some 60), .mv (.t 7), none⟩,
      ⟨(some 61), .bin false .add (.t 60) (.v (.int .i64 1)), none⟩,
      ⟨(some 7), .mv (.t 61), none⟩]))))
def signetlaw2_DecimalShifts_q : IQ :=
  (.seq
  (.reg 4 none [
    ⟨(some 4), .mv (.v (.bool false)), none⟩])
  (.seq
  (.seq
  (.reg 22 none [
    ⟨(some 21), .call 23 [], none⟩,
    ⟨(some 22), .un .not (.t 21), none⟩])
  (.cond (.t 22)
    (.seq
    (.reg 4 none [
      ⟨(some 4), .mv (.v (.bool false)), none⟩])
    (.canon [] [4] .ret))
    .skip))
  (.seq
  (.seq
  (.reg 33 none [
    ⟨(some 23), .mv (.t 1), none⟩,
    ⟨(some 24), .bin false .lss (.t 23) (.v (.int .i64 0)), none⟩,
    ⟨(some 25), .mv (.t 24), none⟩,
    ⟨(some 26), .mv (.t 1), some (25, false)⟩,
    ⟨(some 27), .bin false .gtr (.t 26) (.v (.int .i64 400)), some (25, false)⟩,
    ⟨(some 28), .pick (.t 25) (.v (.bool true)) (.t 27), none⟩,
    ⟨(some 29), .mv (.t 28), none⟩,
    ⟨(some 30), .mv (.t 0), some (29, false)⟩,
    ⟨(some 31), .call 17 [(.t 30)], some (29, false)⟩,
    ⟨(some 32), .un .not (.t 31), some (29, false)⟩,
    ⟨(some 33), .pick (.t 29) (.v (.bool true)) (.t 32), none⟩])
  (.cond (.t 33)
    (.seq
    (.reg 4 none [
      ⟨(some 4), .mv (.v (.bool true)), none⟩])
    (.canon [] [4] .ret))
    .skip))
  (.seq
  (.seq
  (.reg 5 none [
    ⟨(some 5), .mv (.v (.int .i64 0)), none⟩])
  (.block 0
    (.canon [] [0, 1, 5] (.sub 0 signetlaw2_DecimalShifts_b0))))
  (.seq
  (.reg 6 none [
    ⟨(some 56), .mv (.t 0), none⟩,
    ⟨(some 6), .mv (.t 56), none⟩])
  (.seq
  (.seq
  (.reg 7 none [
    ⟨(some 7), .mv (.v (.int .i64 0)), none⟩])
  (.block 2
    (.canon [] [0, 1, 6, 7] (.sub 1 signetlaw2_DecimalShifts_b1))))
  (.seq
  (.seq
  (.reg 66 none [
    ⟨(some 64), .mv (.t 6), none⟩,
    ⟨(some 65), .call 17 [(.t 64)], none⟩,
    ⟨(some 66), .un .not (.t 65), none⟩])
  (.cond (.t 66)
    (.seq
    (.reg 4 none [
      ⟨(some 4), .mv (.v (.bool true)), none⟩])
    (.canon [] [4] .ret))
    .skip))
  (.seq
  (.reg 8 none [
    ⟨(some 67), .mv (.t 1), none⟩,
    ⟨(some 68), .call 31 [(.t 67)], none⟩,
    ⟨(some 69), .bin false .add (.v (.string ⟨#[101]⟩)) (.t 68), none⟩,
    ⟨(some 8), .mv (.t 69), none⟩])
  (.seq
  (.reg 10 none [
    ⟨(some 71), .mv (.t 6), none⟩,
    ⟨(some 72), .mv (.t 0), none⟩,
    ⟨(some 73), .mv (.t 8), none⟩,
    ⟨(some 74), .bin false .add (.t 72) (.t 73), none⟩,
    ⟨(some 75), .call 19 [(.t 71), (.t 74)], none⟩,
    ⟨(some 70), .mv (.t 75), none⟩,
    ⟨(some 76), .extract (.t 70) 0, none⟩,
    ⟨(some 77), .extract (.t 70) 1, none⟩,
    ⟨(some 9), .mv (.t 76), none⟩,
    ⟨(some 10), .mv (.t 77), none⟩])
  (.seq
  (.reg 12 none [
    ⟨(some 79), .mv (.t 6), none⟩,
    ⟨(some 80), .bin false .add (.t 79) (.v (.string ⟨#[69, 45]⟩)), none⟩,
    ⟨(some 81), .mv (.t 1), none⟩,
    ⟨(some 82), .call 31 [(.t 81)], none⟩,
    ⟨(some 83), .bin false .add (.t 80) (.t 82), none⟩,
    ⟨(some 84), .mv (.t 0), none⟩,
    ⟨(some 85), .call 19 [(.t 83), (.t 84)], none⟩,
    ⟨(some 78), .mv (.t 85), none⟩,
    ⟨(some 86), .extract (.t 78) 0, none⟩,
    ⟨(some 87), .extract (.t 78) 1, none⟩,
    ⟨(some 11), .mv (.t 86), none⟩,
    ⟨(some 12), .mv (.t 87), none⟩])
  (.seq
  (.seq
  (.reg 101 none [
    ⟨(some 88), .mv (.t 10), none⟩,
    ⟨(some 89), .bin false .neq (.t 88) (.v (.int .i64 0)), none⟩,
    ⟨(some 90), .mv (.t 89), none⟩,
    ⟨(some 91), .mv (.t 12), some (90, false)⟩,
    ⟨(some 92), .bin false .neq (.t 91) (.v (.int .i64 0)), some (90, false)⟩,
    ⟨(some 93), .pick (.t 90) (.v (.bool true)) (.t 92), none⟩,
    ⟨(some 94), .mv (.t 93), none⟩,
    ⟨(some 95), .mv (.t 9), some (94, false)⟩,
    ⟨(some 96), .bin false .neq (.t 95) (.v (.int .i64 0)), some (94, false)⟩,
    ⟨(some 97), .pick (.t 94) (.v (.bool true)) (.t 96), none⟩,
    ⟨(some 98), .mv (.t 97), none⟩,
    ⟨(some 99), .mv (.t 11), some (98, false)⟩,
    ⟨(some 100), .bin false .neq (.t 99) (.v (.int .i64 0)), some (98, false)⟩,
    ⟨(some 101), .pick (.t 98) (.v (.bool true)) (.t 100), none⟩])
  (.cond (.t 101)
    (.seq
    (.reg 4 none [
      ⟨(some 4), .mv (.v (.bool false)), none⟩])
    (.canon [] [4] .ret))
    .skip))
  (.seq
  (.reg 14 none [
    ⟨(some 103), .mv (.t 6), none⟩,
    ⟨(some 104), .call 21 [(.t 103)], none⟩,
    ⟨(some 102), .mv (.t 104), none⟩,
    ⟨(some 105), .extract (.t 102) 0, none⟩,
    ⟨(some 106), .extract (.t 102) 1, none⟩,
    ⟨(some 13), .mv (.t 105), none⟩,
    ⟨(some 14), .mv (.t 106), none⟩])
  (.seq
  (.reg 16 none [
    ⟨(some 108), .mv (.t 0), none⟩,
    ⟨(some 109), .mv (.t 8), none⟩,
    ⟨(some 110), .bin false .add (.t 108) (.t 109), none⟩,
    ⟨(some 111), .call 21 [(.t 110)], none⟩,
    ⟨(some 107), .mv (.t 111), none⟩,
    ⟨(some 112), .extract (.t 107) 0, none⟩,
    ⟨(some 113), .extract (.t 107) 1, none⟩,
    ⟨(some 15), .mv (.t 112), none⟩,
    ⟨(some 16), .mv (.t 113), none⟩])
  (.seq
  (.reg 18 none [
    ⟨(some 115), .mv (.t 6), none⟩,
    ⟨(some 116), .bin false .add (.t 115) (.v (.string ⟨#[69, 45]⟩)), none⟩,
    ⟨(some 117), .mv (.t 1), none⟩,
    ⟨(some 118), .call 31 [(.t 117)], none⟩,
    ⟨(some 119), .bin false .add (.t 116) (.t 118), none⟩,
    ⟨(some 120), .call 21 [(.t 119)], none⟩,
    ⟨(some 114), .mv (.t 120), none⟩,
    ⟨(some 121), .extract (.t 114) 0, none⟩,
    ⟨(some 122), .extract (.t 114) 1, none⟩,
    ⟨(some 17), .mv (.t 121), none⟩,
    ⟨(some 18), .mv (.t 122), none⟩])
  (.seq
  (.reg 20 none [
    ⟨(some 124), .mv (.t 0), none⟩,
    ⟨(some 125), .call 21 [(.t 124)], none⟩,
    ⟨(some 123), .mv (.t 125), none⟩,
    ⟨(some 126), .extract (.t 123) 0, none⟩,
    ⟨(some 127), .extract (.t 123) 1, none⟩,
    ⟨(some 19), .mv (.t 126), none⟩,
    ⟨(some 20), .mv (.t 127), none⟩])
  (.seq
  (.reg 4 none [
    ⟨(some 128), .mv (.t 13), none⟩,
    ⟨(some 129), .mv (.t 15), none⟩,
    ⟨(some 130), .bin false .eql (.t 128) (.t 129), none⟩,
    ⟨(some 131), .mv (.t 130), none⟩,
    ⟨(some 132), .mv (.t 17), some (131, true)⟩,
    ⟨(some 133), .mv (.t 19), some (131, true)⟩,
    ⟨(some 134), .bin false .eql (.t 132) (.t 133), some (131, true)⟩,
    ⟨(some 135), .pick (.t 131) (.t 134) (.v (.bool false)), none⟩,
    ⟨(some 4), .mv (.t 135), none⟩])
  (.canon [] [4] .ret)))))))))))))))))
theorem signetlaw2_DecimalShifts_chk : chk Tryd.prog 12 [] = some (signetlaw2_DecimalShifts_q.erase, [.tmp 4], 136) := by kernel_rfl
noncomputable def signetlaw2_DecimalShifts_p0_step (text : ByteArray) (i : Int) : Option (Int ⊕ (Bool ⊕ Unit)) :=
  bif decide (i < (text.size : Int)) then (
    gd (0 ≤ i ∧ i < text.size) <|
    gd ((decide ((bAt text i) = (46 : Int))) = false → 0 ≤ i ∧ i < text.size) <|
    gd (((decide ((bAt text i) = (46 : Int))) || (decide ((bAt text i) = (101 : Int)))) = false → 0 ≤ i ∧ i < text.size) <|
    bif (((decide ((bAt text i) = (46 : Int))) || (decide ((bAt text i) = (101 : Int)))) || (decide ((bAt text i) = (69 : Int)))) then (
      some (.inr (.inl true)))
    else (
      gd (InI64 (i + (1 : Int))) <|
      some (.inl (i + (1 : Int)))))
  else (
    some (.inr (.inr ())))
noncomputable def signetlaw2_DecimalShifts_p0 (text : ByteArray) (i : Int) : Option (Bool ⊕ Unit) :=
  whileO (fun x : Int => signetlaw2_DecimalShifts_p0_step text x) i
noncomputable def signetlaw2_DecimalShifts_p1_step (k_ : Int) (long : ByteArray) (i : Int) : Option ((ByteArray × Int) ⊕ ByteArray) :=
  bif decide (i < k_) then (
    gd (long.size + (⟨#[48]⟩ : ByteArray).size ≤ 9223372036854775807) <|
    gd (InI64 (i + (1 : Int))) <|
    some (.inl ((long ++ (⟨#[48]⟩ : ByteArray)), (i + (1 : Int)))))
  else (
    some (.inr long))
noncomputable def signetlaw2_DecimalShifts_p1 (k_ : Int) (long : ByteArray) (i : Int) : Option ByteArray :=
  whileO (fun x : (ByteArray × Int) => signetlaw2_DecimalShifts_p1_step k_ x.1 x.2) (long, i)
noncomputable def signetlaw2_DecimalShifts_s (text : ByteArray) (k_ : Int) : Option Bool :=
  (signetlaw2_started_s).bind fun r9 =>
  bif (!r9) then (
    some false)
  else (
    bif ((decide (k_ < (0 : Int))) || (decide ((400 : Int) < k_))) then (
      some true)
    else (
      (decimal_Valid_s text).bind fun r10 =>
      bif (!r10) then (
        some true)
      else (
        (signetlaw2_DecimalShifts_p0 text (0 : Int)).bind fun o11 => (Sum.elim (fun (o11_0 : Bool) =>
          some o11_0) (fun (o11_1 : Unit) =>
          (signetlaw2_DecimalShifts_p1 k_ text (0 : Int)).bind fun o12 =>
          (decimal_Valid_s o12).bind fun r13 =>
          bif (!r13) then (
            some true)
          else (
            (strconv_Itoa_s k_).bind fun r14 =>
            gd ((⟨#[101]⟩ : ByteArray).size + r14.size ≤ 9223372036854775807) <|
            gd (text.size + ((⟨#[101]⟩ : ByteArray) ++ r14).size ≤ 9223372036854775807) <|
            (decimal_Compare_s o12 (text ++ ((⟨#[101]⟩ : ByteArray) ++ r14))).bind fun r15 =>
            gd (o12.size + (⟨#[69, 45]⟩ : ByteArray).size ≤ 9223372036854775807) <|
            (strconv_Itoa_s k_).bind fun r16 =>
            gd ((o12 ++ (⟨#[69, 45]⟩ : ByteArray)).size + r16.size ≤ 9223372036854775807) <|
            (decimal_Compare_s ((o12 ++ (⟨#[69, 45]⟩ : ByteArray)) ++ r16) text).bind fun r17 =>
            bif ((((!decide (r15.2 = (0 : Int))) || (!decide (r17.2 = (0 : Int)))) || (!decide (r15.1 = (0 : Int)))) || (!decide (r17.1 = (0 : Int)))) then (
              some false)
            else (
              (decimal_Nearest_s o12).bind fun r18 =>
              gd (text.size + ((⟨#[101]⟩ : ByteArray) ++ r14).size ≤ 9223372036854775807) <|
              (decimal_Nearest_s (text ++ ((⟨#[101]⟩ : ByteArray) ++ r14))).bind fun r19 =>
              gd (o12.size + (⟨#[69, 45]⟩ : ByteArray).size ≤ 9223372036854775807) <|
              (strconv_Itoa_s k_).bind fun r20 =>
              gd ((o12 ++ (⟨#[69, 45]⟩ : ByteArray)).size + r20.size ≤ 9223372036854775807) <|
              (decimal_Nearest_s ((o12 ++ (⟨#[69, 45]⟩ : ByteArray)) ++ r20)).bind fun r21 =>
              (decimal_Nearest_s text).bind fun r22 =>
              some ((decide (r18.1 = r19.1)) && (decide (r21.1 = r22.1))))))) o11)))
noncomputable def signetlaw2_DecimalShifts_G : Nat → Option CQ := tblQ [(23, signetlaw2_started_w), (17, decimal_Valid_w), (31, strconv_Itoa_w), (19, decimal_Compare_w), (21, decimal_Nearest_w)]
theorem signetlaw2_DecimalShifts_Gok : ∀ f C, signetlaw2_DecimalShifts_G f = some C → ValidQ Tryd.prog f C := tblQ_valid ⟨signetlaw2_started_ok, decimal_Valid_ok, strconv_Itoa_ok, decimal_Compare_ok, decimal_Nearest_ok, trivial⟩
def signetlaw2_DecimalShifts_d0 := (dQS (dCons (dSl 0 (dVC (dCO dS))) (dCons (dSl 1 (dVC (dCO (dI .i64)))) (dCons (dSl 5 (dVC (dCO (dI .i64)))) dNil))) dNil)
noncomputable def signetlaw2_DecimalShifts_l0 : SubQ := fun S R kn kx kr => (Dec.d signetlaw2_DecimalShifts_d0 S).bind fun x => (signetlaw2_DecimalShifts_p0 x.1.1 x.1.2.2.1).bind fun r => (Sum.elim (fun (r_0 : Bool) => kr ⟨[(4, [], .c (.o (.val (.bool r_0))))], [], []⟩) (fun (r_1 : Unit) => kx 0 ⟨[(0, [], .c (.o (.val (.string x.1.1)))), (1, [], .c (.o (.val (.int .i64 x.1.2.1))))], [], []⟩)) r
def signetlaw2_DecimalShifts_d1 := (dQS (dCons (dSl 0 (dVC (dCO dS))) (dCons (dSl 1 (dVC (dCO (dI .i64)))) (dCons (dSl 6 (dVC (dCO dS))) (dCons (dSl 7 (dVC (dCO (dI .i64)))) dNil)))) dNil)
noncomputable def signetlaw2_DecimalShifts_l1 : SubQ := fun S R kn kx kr => (Dec.d signetlaw2_DecimalShifts_d1 S).bind fun x => (signetlaw2_DecimalShifts_p1 x.1.2.1 x.1.2.2.1 x.1.2.2.2.1).bind fun r => kx 2 ⟨[(0, [], .c (.o (.val (.string x.1.1)))), (1, [], .c (.o (.val (.int .i64 x.1.2.1)))), (6, [], .c (.o (.val (.string r))))], [], []⟩
noncomputable def signetlaw2_DecimalShifts_L : Nat → SubQ := tblL [(0, signetlaw2_DecimalShifts_l0), (1, signetlaw2_DecimalShifts_l1)]
theorem signetlaw2_DecimalShifts_p0_eq (text : ByteArray) (k_ : Int) (i : Int) (R : Type) (kn : QS → Option R) (kx : Nat → QS → Option R) (kr : QS → Option R) :
    interpQ signetlaw2_DecimalShifts_L signetlaw2_DecimalShifts_G 0 21 136 signetlaw2_DecimalShifts_b0 ⟨[(0, [], .c (.o (.val (.string text)))), (1, [], .c (.o (.val (.int .i64 k_)))), (5, [], .c (.o (.val (.int .i64 i))))], [], []⟩ kn kx kr = (signetlaw2_DecimalShifts_p0 text i).bind fun r => (Sum.elim (fun (r_0 : Bool) => kr ⟨[(4, [], .c (.o (.val (.bool r_0))))], [], []⟩) (fun (r_1 : Unit) => kx 0 ⟨[(0, [], .c (.o (.val (.string text)))), (1, [], .c (.o (.val (.int .i64 k_))))], [], []⟩)) r := by
  refine loop_piece (step := fun x => signetlaw2_DecimalShifts_p0_step text x) (enc := fun x => ⟨[(0, [], .c (.o (.val (.string text)))), (1, [], .c (.o (.val (.int .i64 k_)))), (5, [], .c (.o (.val (.int .i64 x))))], [], []⟩) (ko := fun r => (Sum.elim (fun (r_0 : Bool) => kr ⟨[(4, [], .c (.o (.val (.bool r_0))))], [], []⟩) (fun (r_1 : Unit) => kx 0 ⟨[(0, [], .c (.o (.val (.string text)))), (1, [], .c (.o (.val (.int .i64 k_))))], [], []⟩)) r) ?_ ?_ i
  · intro x; kernel_rfl
  · intro x ki; simp only [signetlaw2_DecimalShifts_p0_step, -eq_self, bind_cond, bind_gd, Option.bind_assoc, Option.bind_some, Sum.elim_inl, Sum.elim_inr, bind_elim]; kernel_rfl
theorem signetlaw2_DecimalShifts_sub0 : SubOK signetlaw2_DecimalShifts_L signetlaw2_DecimalShifts_G 0 21 136 0 signetlaw2_DecimalShifts_b0 := sub_ok' signetlaw2_DecimalShifts_d0 (fun x R kn kx kr => (signetlaw2_DecimalShifts_p0 x.1.1 x.1.2.2.1).bind fun r => (Sum.elim (fun (r_0 : Bool) => kr ⟨[(4, [], .c (.o (.val (.bool r_0))))], [], []⟩) (fun (r_1 : Unit) => kx 0 ⟨[(0, [], .c (.o (.val (.string x.1.1)))), (1, [], .c (.o (.val (.int .i64 x.1.2.1))))], [], []⟩)) r) (by kernel_rfl) fun x R kn kx kr => signetlaw2_DecimalShifts_p0_eq x.1.1 x.1.2.1 x.1.2.2.1 R kn kx kr
theorem signetlaw2_DecimalShifts_p1_eq (text : ByteArray) (k_ : Int) (long : ByteArray) (i : Int) (R : Type) (kn : QS → Option R) (kx : Nat → QS → Option R) (kr : QS → Option R) :
    interpQ signetlaw2_DecimalShifts_L signetlaw2_DecimalShifts_G 0 21 136 signetlaw2_DecimalShifts_b1 ⟨[(0, [], .c (.o (.val (.string text)))), (1, [], .c (.o (.val (.int .i64 k_)))), (6, [], .c (.o (.val (.string long)))), (7, [], .c (.o (.val (.int .i64 i))))], [], []⟩ kn kx kr = (signetlaw2_DecimalShifts_p1 k_ long i).bind fun r => kx 2 ⟨[(0, [], .c (.o (.val (.string text)))), (1, [], .c (.o (.val (.int .i64 k_)))), (6, [], .c (.o (.val (.string r))))], [], []⟩ := by
  refine loop_piece (step := fun x => signetlaw2_DecimalShifts_p1_step k_ x.1 x.2) (enc := fun x => ⟨[(0, [], .c (.o (.val (.string text)))), (1, [], .c (.o (.val (.int .i64 k_)))), (6, [], .c (.o (.val (.string x.1)))), (7, [], .c (.o (.val (.int .i64 x.2))))], [], []⟩) (ko := fun r => kx 2 ⟨[(0, [], .c (.o (.val (.string text)))), (1, [], .c (.o (.val (.int .i64 k_)))), (6, [], .c (.o (.val (.string r))))], [], []⟩) ?_ ?_ (long, i)
  · intro x; kernel_rfl
  · intro x ki; simp only [signetlaw2_DecimalShifts_p1_step, -eq_self, bind_cond, bind_gd, Option.bind_assoc, Option.bind_some, Sum.elim_inl, Sum.elim_inr, bind_elim]; kernel_rfl
theorem signetlaw2_DecimalShifts_sub1 : SubOK signetlaw2_DecimalShifts_L signetlaw2_DecimalShifts_G 0 21 136 1 signetlaw2_DecimalShifts_b1 := sub_ok' signetlaw2_DecimalShifts_d1 (fun x R kn kx kr => (signetlaw2_DecimalShifts_p1 x.1.2.1 x.1.2.2.1 x.1.2.2.2.1).bind fun r => kx 2 ⟨[(0, [], .c (.o (.val (.string x.1.1)))), (1, [], .c (.o (.val (.int .i64 x.1.2.1)))), (6, [], .c (.o (.val (.string r))))], [], []⟩) (by kernel_rfl) fun x R kn kx kr => signetlaw2_DecimalShifts_p1_eq x.1.1 x.1.2.1 x.1.2.2.1 x.1.2.2.2.1 R kn kx kr
theorem signetlaw2_DecimalShifts_subs : subsOK signetlaw2_DecimalShifts_L signetlaw2_DecimalShifts_G 0 21 136 signetlaw2_DecimalShifts_q := subs_of (show AllSub signetlaw2_DecimalShifts_L signetlaw2_DecimalShifts_G 0 21 136 [(0, signetlaw2_DecimalShifts_b0), (1, signetlaw2_DecimalShifts_b1)] from ⟨signetlaw2_DecimalShifts_sub0, signetlaw2_DecimalShifts_sub1, trivial⟩)
theorem signetlaw2_DecimalShifts_eq (text : ByteArray) (k_ : Int) (R : Type) (k : SV → List SB → Option R) :
    fnQ signetlaw2_DecimalShifts_L signetlaw2_DecimalShifts_G 21 136 signetlaw2_DecimalShifts_q [.tmp 4] [.c (.o (.val (.string text))), .c (.o (.val (.int .i64 k_)))] [] k = (signetlaw2_DecimalShifts_s text k_).bind fun r => k (.c (.o (.val (.bool r)))) [] := by
  simp only [signetlaw2_DecimalShifts_s, -eq_self, bind_cond, bind_gd, Option.bind_assoc, Option.bind_some, Sum.elim_inl, Sum.elim_inr, bind_elim]
  kernel_rfl
def signetlaw2_DecimalShifts_da := (dCons (dVC (dCO dS)) (dCons (dVC (dCO (dI .i64))) dNil))
def signetlaw2_DecimalShifts_db := (dNil : Dec Unit (List SB))
noncomputable def signetlaw2_DecimalShifts_c : CS := fun args hp R k => (Dec.d signetlaw2_DecimalShifts_da args).bind fun x => (Dec.d signetlaw2_DecimalShifts_db hp).bind fun y => (signetlaw2_DecimalShifts_s x.1 x.2.1).bind fun r => k (.c (.o (.val (.bool r)))) []
theorem signetlaw2_DecimalShifts_val : ValidS Tryd.prog 12 signetlaw2_DecimalShifts_c :=
  val_ok signetlaw2_DecimalShifts_chk 21 signetlaw2_DecimalShifts_Gok signetlaw2_DecimalShifts_da signetlaw2_DecimalShifts_db 0 (fun x y R k => (signetlaw2_DecimalShifts_s x.1 x.2.1).bind fun r => k (.c (.o (.val (.bool r)))) []) (by kernel_rfl)
    (fun x y R k => by simp only [Option.bind_assoc, Option.bind_some]) (fun x => Nat.le_of_ble_eq_true rfl) (fun y => rfl) signetlaw2_DecimalShifts_subs fun x y => signetlaw2_DecimalShifts_eq x.1 x.2.1 _ _
end Go.Proofs.YtdibapfehdhfjaaDoor
