/-
  Functions as the engine reads them (printed by gen.py).
-/
import Derived.Test.YtdibapfehdhfjaaDoorEngO
import Derived.Test.YtdibapfehdhfjaaDoorProg
import Derived.Test.YtdibapfehdhfjaaDoorGuess
import Derived.Test.YtdibapfehdhfjaaDoorGC
import Derived.Test.YtdibapfehdhfjaaDoorGD
namespace Go.Proofs.YtdibapfehdhfjaaDoor
open Go.Eng
set_option linter.unusedVariables false
set_option linter.unusedSimpArgs false
set_option maxRecDepth 100000
/-! ### signet/decimal.Nearest -/
def decimal_Nearest_b1 : IQ :=
  (.loop [4, 6, 10]
    (.seq
    (.seq
    (.reg 57 (some [0, 1, 2, 3, 4, 5, 6, 7, 8, 9]) [
      ⟨(some 48), .mv (.t 10), none⟩,
      ⟨(some 49), .bin false .gtr (.t 48) (.v (.int .u32 0)), none⟩,
      ⟨(some 50), .mv (.t 49), none⟩,
      ⟨(some 51), .load (some 7) (.t 4), some (50, true)⟩,
      ⟨(some 52), .mv (.t 10), some (50, true)⟩,
      ⟨(some 53), .bin false .sub (.t 52) (.v (.int .u32 1)), some (50, true)⟩,
      ⟨(some 54), .call 42 [(.t 53)], some (50, true)⟩,
      ⟨(some 55), .call 38 [(.t 51), (.t 54)], some (50, true)⟩,
      ⟨(some 56), .bin false .lss (.t 55) (.v (.int .i64 0)), some (50, true)⟩,
      ⟨(some 57), .pick (.t 50) (.t 56) (.v (.bool false)), none⟩])
    (.cond (.t 57)
      .skip
      (.canon [] [4, 6, 10] (.exit 1))))
    (.block 2
      (.reg 10 none [
        ⟨(some 58), .mv (.t 10), none⟩,
        ⟨(some 59), .bin false .sub (.t 58) (.v (.int .u32 1)), none⟩,
        ⟨(some 10), .mv (.t 59), none⟩]))))
def decimal_Nearest_b2 : IQ :=
  (.loop [4, 6, 10]
    (.seq
    (.seq
    (.reg 68 (some [0, 1, 2, 3, 4, 5, 6, 7, 8]) [
      ⟨(some 60), .mv (.t 10), none⟩,
      ⟨(some 61), .bin false .lss (.t 60) (.v (.int .u32 2139095040)), none⟩,
      ⟨(some 62), .mv (.t 61), none⟩,
      ⟨(some 63), .load (some 7) (.t 4), some (62, true)⟩,
      ⟨(some 64), .mv (.t 10), some (62, true)⟩,
      ⟨(some 65), .call 42 [(.t 64)], some (62, true)⟩,
      ⟨(some 66), .call 38 [(.t 63), (.t 65)], some (62, true)⟩,
      ⟨(some 67), .bin false .gtr (.t 66) (.v (.int .i64 0)), some (62, true)⟩,
      ⟨(some 68), .pick (.t 62) (.t 67) (.v (.bool false)), none⟩])
    (.cond (.t 68)
      .skip
      (.canon [] [4, 6, 10] (.exit 3))))
    (.block 4
      (.reg 10 none [
        ⟨(some 69), .mv (.t 10), none⟩,
        ⟨(some 70), .bin false .add (.t 69) (.v (.int .u32 1)), none⟩,
        ⟨(some 10), .mv (.t 70), none⟩]))))
def decimal_Nearest_b0 : IQ :=
  (.seq
  (.reg 8 none [
    ⟨(some 21), .call 36 [(.v (.string ⟨#[48]⟩)), (.v (.int .i64 1))], none⟩,
    ⟨(some 20), .mv (.t 21), none⟩,
    ⟨(some 22), .extract (.t 20) 0, none⟩,
    ⟨(some 23), .extract (.t 20) 1, none⟩,
    ⟨(some 7), .alloc 58 [.bool false, .string ⟨#[]⟩, .string ⟨#[]⟩, .int .i64 0, .bool false, .bool false, .string ⟨#[]⟩], none⟩,
    ⟨none, .store 7 (.t 7) (.t 22), none⟩,
    ⟨(some 8), .mv (.t 23), none⟩])
  (.seq
  (.reg 9 (some [0, 1, 2, 3, 4, 5, 6]) [
    ⟨(some 24), .faddr 3 (.t 4), none⟩,
    ⟨(some 25), .load none (.t 24), none⟩,
    ⟨(some 26), .load (some 7) (.t 4), none⟩,
    ⟨(some 27), .load (some 7) (.t 7), none⟩,
    ⟨(some 28), .call 40 [(.t 26), (.t 27)], none⟩,
    ⟨(some 29), .bin false .add (.t 25) (.t 28), none⟩,
    ⟨(some 9), .mv (.t 29), none⟩])
  (.seq
  (.block 0
    (.seq
    (.reg 30 none [
      ⟨(some 31), .faddr 2 (.t 4), none⟩,
      ⟨(some 32), .load none (.t 31), none⟩,
      ⟨(some 33), .bin false .eql (.t 32) (.v (.string ⟨#[]⟩)), none⟩,
      ⟨(some 34), .mv (.t 33), none⟩,
      ⟨(some 35), .mv (.t 9), some (34, false)⟩,
      ⟨(some 36), .bin false .lss (.t 35) (.v (.int .i64 (-60))), some (34, false)⟩,
      ⟨(some 37), .pick (.t 34) (.v (.bool true)) (.t 36), none⟩,
      ⟨(some 30), .mv (.t 37), none⟩])
    (.cond (.t 30)
      (.seq
      (.reg 3 none [
        ⟨(some 38), .mv (.t 6), none⟩,
        ⟨(some 2), .mv (.t 38), none⟩,
        ⟨(some 3), .mv (.v (.int .i64 0)), none⟩])
      (.canon [] [2, 3] .ret))
      (.seq
      (.reg 39 none [
        ⟨(some 40), .mv (.t 9), none⟩,
        ⟨(some 41), .bin false .gtr (.t 40) (.v (.int .i64 60)), none⟩,
        ⟨(some 39), .mv (.t 41), none⟩])
      (.cond (.t 39)
        (.seq
        (.reg 3 none [
          ⟨(some 42), .mv (.t 6), none⟩,
          ⟨(some 43), .bin false .or (.t 42) (.v (.int .u32 2139095040)), none⟩,
          ⟨(some 2), .mv (.t 43), none⟩,
          ⟨(some 3), .mv (.v (.int .i64 0)), none⟩])
        (.canon [] [2, 3] .ret))
        .skip)))))
  (.seq
  (.reg 10 none [
    ⟨(some 44), .faddr 2 (.t 4), none⟩,
    ⟨(some 45), .load none (.t 44), none⟩,
    ⟨(some 46), .mv (.t 9), none⟩,
    ⟨(some 47), .call 41 [(.t 45), (.t 46)], none⟩,
    ⟨(some 10), .mv (.t 47), none⟩])
  (.seq
  (.block 1
    (.canon [] [4, 6, 10] (.sub 1 decimal_Nearest_b1)))
  (.seq
  (.block 3
    (.canon [] [4, 6, 10] (.sub 2 decimal_Nearest_b2)))
  (.seq
  (.block 5
    (.seq
    (.reg 71 (some [0, 1, 2, 3, 4, 5, 6, 7, 8, 9, 10, 11, 12, 13, 14, 15]) [
      ⟨(some 72), .mv (.t 10), none⟩,
      ⟨(some 73), .bin false .gtr (.t 72) (.v (.int .u32 0)), none⟩,
      ⟨(some 74), .mv (.t 73), none⟩,
      ⟨(some 75), .mv (.t 10), some (74, true)⟩,
      ⟨(some 76), .bin false .and (.t 75) (.v (.int .u32 1)), some (74, true)⟩,
      ⟨(some 77), .bin false .eql (.t 76) (.v (.int .u32 1)), some (74, true)⟩,
      ⟨(some 78), .pick (.t 74) (.t 77) (.v (.bool false)), none⟩,
      ⟨(some 79), .mv (.t 78), none⟩,
      ⟨(some 80), .load (some 7) (.t 4), some (79, true)⟩,
      ⟨(some 81), .mv (.t 10), some (79, true)⟩,
      ⟨(some 82), .bin false .sub (.t 81) (.v (.int .u32 1)), some (79, true)⟩,
      ⟨(some 83), .call 42 [(.t 82)], some (79, true)⟩,
      ⟨(some 84), .call 38 [(.t 80), (.t 83)], some (79, true)⟩,
      ⟨(some 85), .bin false .eql (.t 84) (.v (.int .i64 0)), some (79, true)⟩,
      ⟨(some 86), .pick (.t 79) (.t 85) (.v (.bool false)), none⟩,
      ⟨(some 71), .mv (.t 86), none⟩])
    (.cond (.t 71)
      (.reg 10 none [
        ⟨(some 87), .mv (.t 10), none⟩,
        ⟨(some 88), .bin false .sub (.t 87) (.v (.int .u32 1)), none⟩,
        ⟨(some 10), .mv (.t 88), none⟩])
      (.seq
      (.reg 89 (some [0, 1, 2, 3, 4, 5, 6, 7, 8, 9, 10, 11, 12, 13, 14]) [
        ⟨(some 90), .mv (.t 10), none⟩,
        ⟨(some 91), .bin false .lss (.t 90) (.v (.int .u32 2139095040)), none⟩,
        ⟨(some 92), .mv (.t 91), none⟩,
        ⟨(some 93), .mv (.t 10), some (92, true)⟩,
        ⟨(some 94), .bin false .and (.t 93) (.v (.int .u32 1)), some (92, true)⟩,
        ⟨(some 95), .bin false .eql (.t 94) (.v (.int .u32 1)), some (92, true)⟩,
        ⟨(some 96), .pick (.t 92) (.t 95) (.v (.bool false)), none⟩,
        ⟨(some 97), .mv (.t 96), none⟩,
        ⟨(some 98), .load (some 7) (.t 4), some (97, true)⟩,
        ⟨(some 99), .mv (.t 10), some (97, true)⟩,
        ⟨(some 100), .call 42 [(.t 99)], some (97, true)⟩,
        ⟨(some 101), .call 38 [(.t 98), (.t 100)], some (97, true)⟩,
        ⟨(some 102), .bin false .eql (.t 101) (.v (.int .i64 0)), some (97, true)⟩,
        ⟨(some 103), .pick (.t 97) (.t 102) (.v (.bool false)), none⟩,
        ⟨(some 89), .mv (.t 103), none⟩])
      (.cond (.t 89)
        (.reg 10 none [
          ⟨(some 104), .mv (.t 10), none⟩,
          ⟨(some 105), .bin false .add (.t 104) (.v (.int .u32 1)), none⟩,
          ⟨(some 10), .mv (.t 105), none⟩])
        .skip)))))
  (.seq
  (.reg 3 none [
    ⟨(some 106), .mv (.t 6), none⟩,
    ⟨(some 107), .mv (.t 10), none⟩,
    ⟨(some 108), .bin false .or (.t 106) (.t 107), none⟩,
    ⟨(some 2), .mv (.t 108), none⟩,
    ⟨(some 3), .mv (.v (.int .i64 0)), none⟩])
  (.canon [] [2, 3] .ret)))))))))
def decimal_Nearest_q : IQ :=
  (.seq
  (.reg 3 none [
    ⟨(some 2), .mv (.v (.int .u32 0)), none⟩,
    ⟨(some 3), .mv (.v (.int .i64 0)), none⟩])
  (.seq
  (.reg 5 none [
    ⟨(some 12), .mv (.t 0), none⟩,
    ⟨(some 13), .call 36 [(.t 12), (.v (.int .i64 0))], none⟩,
    ⟨(some 11), .mv (.t 13), none⟩,
    ⟨(some 14), .extract (.t 11) 0, none⟩,
    ⟨(some 15), .extract (.t 11) 1, none⟩,
    ⟨(some 4), .alloc 58 [.bool false, .string ⟨#[]⟩, .string ⟨#[]⟩, .int .i64 0, .bool false, .bool false, .string ⟨#[]⟩], none⟩,
    ⟨none, .store 7 (.t 4) (.t 14), none⟩,
    ⟨(some 5), .mv (.t 15), none⟩])
  (.seq
  (.seq
  (.reg 17 none [
    ⟨(some 16), .mv (.t 5), none⟩,
    ⟨(some 17), .un .not (.t 16), none⟩])
  (.cond (.t 17)
    (.seq
    (.reg 3 none [
      ⟨(some 2), .mv (.v (.int .u32 0)), none⟩,
      ⟨(some 3), .mv (.v (.int .i64 30)), none⟩])
    (.canon [] [2, 3] .ret))
    .skip))
  (.seq
  (.reg 6 none [
    ⟨(some 6), .mv (.v (.int .u32 0)), none⟩])
  (.seq
  (.seq
  (.reg 19 none [
    ⟨(some 18), .faddr 0 (.t 4), none⟩,
    ⟨(some 19), .load none (.t 18), none⟩])
  (.cond (.t 19)
    (.reg 6 none [
      ⟨(some 6), .mv (.v (.int .u32 2147483648)), none⟩])
    .skip))
  (.canon [] [4, 6] (.sub 0 decimal_Nearest_b0)))))))
theorem decimal_Nearest_chk : chk Tryd.prog 21 [] = some (decimal_Nearest_q.erase, [.tmp 2, .tmp 3], 109) := by kernel_rfl
noncomputable def decimal_Nearest_p1_step (b : Int) (n_minus : Bool) (n_whole : ByteArray) (n_digits : ByteArray) (n_point : Int) (n_plain : Bool) (n_down : Bool) (n_exp : ByteArray) : Option (Int ⊕ Int) :=
  (decimal_middle_s ((b - (1 : Int)) % 4294967296)).bind fun r23 =>
  (decimal_size_s (⟨n_minus, n_whole, n_digits, n_point, n_plain, n_down, n_exp⟩ : decimal_number) r23).bind fun r24 =>
  bif ((decide ((0 : Int) < b)) && (decide (r24 < (0 : Int)))) then (
    some (.inl ((b - (1 : Int)) % 4294967296)))
  else (
    some (.inr b))
noncomputable def decimal_Nearest_p1 (b : Int) (n_minus : Bool) (n_whole : ByteArray) (n_digits : ByteArray) (n_point : Int) (n_plain : Bool) (n_down : Bool) (n_exp : ByteArray) : Option Int :=
  whileO (fun x : Int => decimal_Nearest_p1_step x n_minus n_whole n_digits n_point n_plain n_down n_exp) b
noncomputable def decimal_Nearest_p2_step (b : Int) (n_minus : Bool) (n_whole : ByteArray) (n_digits : ByteArray) (n_point : Int) (n_plain : Bool) (n_down : Bool) (n_exp : ByteArray) : Option (Int ⊕ Int) :=
  (decimal_middle_s b).bind fun r26 =>
  (decimal_size_s (⟨n_minus, n_whole, n_digits, n_point, n_plain, n_down, n_exp⟩ : decimal_number) r26).bind fun r27 =>
  bif ((decide (b < (2139095040 : Int))) && (decide ((0 : Int) < r27))) then (
    some (.inl ((b + (1 : Int)) % 4294967296)))
  else (
    some (.inr b))
noncomputable def decimal_Nearest_p2 (b : Int) (n_minus : Bool) (n_whole : ByteArray) (n_digits : ByteArray) (n_point : Int) (n_plain : Bool) (n_down : Bool) (n_exp : ByteArray) : Option Int :=
  whileO (fun x : Int => decimal_Nearest_p2_step x n_minus n_whole n_digits n_point n_plain n_down n_exp) b
noncomputable def decimal_Nearest_p0 (out : Int) (n_minus : Bool) (n_whole : ByteArray) (n_digits : ByteArray) (n_point : Int) (n_plain : Bool) (n_down : Bool) (n_exp : ByteArray) : Option (Int × Int) :=
  (decimal_read_s (⟨#[48]⟩ : ByteArray) (1 : Int)).bind fun r20 =>
  (decimal_apart_s (⟨n_minus, n_whole, n_digits, n_point, n_plain, n_down, n_exp⟩ : decimal_number) r20.1).bind fun r21 =>
  gd (InI64 (n_point + r21)) <|
  bif ((decide (n_digits = (⟨#[]⟩ : ByteArray))) || (decide ((n_point + r21) < (-60 : Int)))) then (
    some (out, (0 : Int)))
  else (
    bif decide ((60 : Int) < (n_point + r21)) then (
      some ((bitOr .u32 out (2139095040 : Int)), (0 : Int)))
    else (
      demon guessP fun g22 =>
      (decimal_Nearest_p1 g22 n_minus n_whole n_digits n_point n_plain n_down n_exp).bind fun o25 =>
      (decimal_Nearest_p2 o25 n_minus n_whole n_digits n_point n_plain n_down n_exp).bind fun o28 =>
      (decimal_middle_s ((o28 - (1 : Int)) % 4294967296)).bind fun r29 =>
      (decimal_size_s (⟨n_minus, n_whole, n_digits, n_point, n_plain, n_down, n_exp⟩ : decimal_number) r29).bind fun r30 =>
      bif (((decide ((0 : Int) < o28)) && (decide ((bitAnd .u32 o28 (1 : Int)) = (1 : Int)))) && (decide (r30 = (0 : Int)))) then (
        some ((bitOr .u32 out ((o28 - (1 : Int)) % 4294967296)), (0 : Int)))
      else (
        (decimal_middle_s o28).bind fun r31 =>
        (decimal_size_s (⟨n_minus, n_whole, n_digits, n_point, n_plain, n_down, n_exp⟩ : decimal_number) r31).bind fun r32 =>
        bif (((decide (o28 < (2139095040 : Int))) && (decide ((bitAnd .u32 o28 (1 : Int)) = (1 : Int)))) && (decide (r32 = (0 : Int)))) then (
          some ((bitOr .u32 out ((o28 + (1 : Int)) % 4294967296)), (0 : Int)))
        else (
          some ((bitOr .u32 out o28), (0 : Int))))))
noncomputable def decimal_Nearest_s (text : ByteArray) : Option (Int × Int) :=
  (decimal_read_s text (0 : Int)).bind fun r19 =>
  bif (!r19.2) then (
    some ((0 : Int), (30 : Int)))
  else (
    bif r19.1.minus then (
      (decimal_Nearest_p0 (2147483648 : Int) r19.1.minus r19.1.whole r19.1.digits r19.1.point r19.1.plain r19.1.down r19.1.exp_).bind fun o33 =>
      some (o33.1, o33.2))
    else (
      (decimal_Nearest_p0 (0 : Int) r19.1.minus r19.1.whole r19.1.digits r19.1.point r19.1.plain r19.1.down r19.1.exp_).bind fun o34 =>
      some (o34.1, o34.2)))
noncomputable def decimal_Nearest_G : Nat → Option CQ := tblQ [(36, decimal_read_w), (40, decimal_apart_w), (41, decimal_guess_w), (42, decimal_middle_w), (38, decimal_size_w)]
theorem decimal_Nearest_Gok : ∀ f C, decimal_Nearest_G f = some C → ValidQ Tryd.prog f C := tblQ_valid ⟨decimal_read_ok, decimal_apart_ok, decimal_guess_ok, decimal_middle_ok, decimal_size_ok, trivial⟩
def decimal_Nearest_d1 := (dQS (dCons (dSl 4 (dVC (dCO (dH 0 0)))) (dCons (dSl 6 (dVC (dCO (dI .u32)))) (dCons (dSl 10 (dVC (dCO (dI .u32)))) dNil))) (dCons (dCells 58 (dCons dB (dCons dS (dCons dS (dCons (dI .i64) (dCons dB (dCons dB (dCons dS dNil)))))))) dNil))
noncomputable def decimal_Nearest_l1 : SubQ := fun S R kn kx kr => (Dec.d decimal_Nearest_d1 S).bind fun x => (decimal_Nearest_p1 x.1.2.2.1 x.2.1.1 x.2.1.2.1 x.2.1.2.2.1 x.2.1.2.2.2.1 x.2.1.2.2.2.2.1 x.2.1.2.2.2.2.2.1 x.2.1.2.2.2.2.2.2.1).bind fun r => kx 1 ⟨[(4, [], .c (.o (.hd 0 0))), (6, [], .c (.o (.val (.int .u32 x.1.2.1)))), (10, [], .c (.o (.val (.int .u32 r))))], [], [.cells 58 [.val (.bool x.2.1.1), .val (.string x.2.1.2.1), .val (.string x.2.1.2.2.1), .val (.int .i64 x.2.1.2.2.2.1), .val (.bool x.2.1.2.2.2.2.1), .val (.bool x.2.1.2.2.2.2.2.1), .val (.string x.2.1.2.2.2.2.2.2.1)]]⟩
def decimal_Nearest_d2 := (dQS (dCons (dSl 4 (dVC (dCO (dH 0 0)))) (dCons (dSl 6 (dVC (dCO (dI .u32)))) (dCons (dSl 10 (dVC (dCO (dI .u32)))) dNil))) (dCons (dCells 58 (dCons dB (dCons dS (dCons dS (dCons (dI .i64) (dCons dB (dCons dB (dCons dS dNil)))))))) dNil))
noncomputable def decimal_Nearest_l2 : SubQ := fun S R kn kx kr => (Dec.d decimal_Nearest_d2 S).bind fun x => (decimal_Nearest_p2 x.1.2.2.1 x.2.1.1 x.2.1.2.1 x.2.1.2.2.1 x.2.1.2.2.2.1 x.2.1.2.2.2.2.1 x.2.1.2.2.2.2.2.1 x.2.1.2.2.2.2.2.2.1).bind fun r => kx 3 ⟨[(4, [], .c (.o (.hd 0 0))), (6, [], .c (.o (.val (.int .u32 x.1.2.1)))), (10, [], .c (.o (.val (.int .u32 r))))], [], [.cells 58 [.val (.bool x.2.1.1), .val (.string x.2.1.2.1), .val (.string x.2.1.2.2.1), .val (.int .i64 x.2.1.2.2.2.1), .val (.bool x.2.1.2.2.2.2.1), .val (.bool x.2.1.2.2.2.2.2.1), .val (.string x.2.1.2.2.2.2.2.2.1)]]⟩
def decimal_Nearest_d0 := (dQS (dCons (dSl 4 (dVC (dCO (dH 0 0)))) (dCons (dSl 6 (dVC (dCO (dI .u32)))) dNil)) (dCons (dCells 58 (dCons dB (dCons dS (dCons dS (dCons (dI .i64) (dCons dB (dCons dB (dCons dS dNil)))))))) dNil))
noncomputable def decimal_Nearest_l0 : SubQ := fun S R kn kx kr => (Dec.d decimal_Nearest_d0 S).bind fun x => (decimal_Nearest_p0 x.1.2.1 x.2.1.1 x.2.1.2.1 x.2.1.2.2.1 x.2.1.2.2.2.1 x.2.1.2.2.2.2.1 x.2.1.2.2.2.2.2.1 x.2.1.2.2.2.2.2.2.1).bind fun r => kr ⟨[(2, [], .c (.o (.val (.int .u32 r.1)))), (3, [], .c (.o (.val (.int .i64 r.2))))], [], []⟩
noncomputable def decimal_Nearest_L : Nat → SubQ := tblL [(1, decimal_Nearest_l1), (2, decimal_Nearest_l2), (0, decimal_Nearest_l0)]
theorem decimal_Nearest_p1_eq (out : Int) (b : Int) (n_minus : Bool) (n_whole : ByteArray) (n_digits : ByteArray) (n_point : Int) (n_plain : Bool) (n_down : Bool) (n_exp : ByteArray) (R : Type) (kn : QS → Option R) (kx : Nat → QS → Option R) (kr : QS → Option R) :
    interpQ decimal_Nearest_L decimal_Nearest_G 0 11 109 decimal_Nearest_b1 ⟨[(4, [], .c (.o (.hd 0 0))), (6, [], .c (.o (.val (.int .u32 out)))), (10, [], .c (.o (.val (.int .u32 b))))], [], [.cells 58 [.val (.bool n_minus), .val (.string n_whole), .val (.string n_digits), .val (.int .i64 n_point), .val (.bool n_plain), .val (.bool n_down), .val (.string n_exp)]]⟩ kn kx kr = (decimal_Nearest_p1 b n_minus n_whole n_digits n_point n_plain n_down n_exp).bind fun r => kx 1 ⟨[(4, [], .c (.o (.hd 0 0))), (6, [], .c (.o (.val (.int .u32 out)))), (10, [], .c (.o (.val (.int .u32 r))))], [], [.cells 58 [.val (.bool n_minus), .val (.string n_whole), .val (.string n_digits), .val (.int .i64 n_point), .val (.bool n_plain), .val (.bool n_down), .val (.string n_exp)]]⟩ := by
  refine loop_piece (step := fun x => decimal_Nearest_p1_step x n_minus n_whole n_digits n_point n_plain n_down n_exp) (enc := fun x => ⟨[(4, [], .c (.o (.hd 0 0))), (6, [], .c (.o (.val (.int .u32 out)))), (10, [], .c (.o (.val (.int .u32 x))))], [], [.cells 58 [.val (.bool n_minus), .val (.string n_whole), .val (.string n_digits), .val (.int .i64 n_point), .val (.bool n_plain), .val (.bool n_down), .val (.string n_exp)]]⟩) (ko := fun r => kx 1 ⟨[(4, [], .c (.o (.hd 0 0))), (6, [], .c (.o (.val (.int .u32 out)))), (10, [], .c (.o (.val (.int .u32 r))))], [], [.cells 58 [.val (.bool n_minus), .val (.string n_whole), .val (.string n_digits), .val (.int .i64 n_point), .val (.bool n_plain), .val (.bool n_down), .val (.string n_exp)]]⟩) ?_ ?_ b
  · intro x; kernel_rfl
  · intro x ki; simp only [decimal_Nearest_p1_step, -eq_self, bind_cond, bind_gd, Option.bind_assoc, Option.bind_some, Sum.elim_inl, Sum.elim_inr, bind_elim]; kernel_rfl
theorem decimal_Nearest_sub1 : SubOK decimal_Nearest_L decimal_Nearest_G 0 11 109 1 decimal_Nearest_b1 := sub_ok' decimal_Nearest_d1 (fun x R kn kx kr => (decimal_Nearest_p1 x.1.2.2.1 x.2.1.1 x.2.1.2.1 x.2.1.2.2.1 x.2.1.2.2.2.1 x.2.1.2.2.2.2.1 x.2.1.2.2.2.2.2.1 x.2.1.2.2.2.2.2.2.1).bind fun r => kx 1 ⟨[(4, [], .c (.o (.hd 0 0))), (6, [], .c (.o (.val (.int .u32 x.1.2.1)))), (10, [], .c (.o (.val (.int .u32 r))))], [], [.cells 58 [.val (.bool x.2.1.1), .val (.string x.2.1.2.1), .val (.string x.2.1.2.2.1), .val (.int .i64 x.2.1.2.2.2.1), .val (.bool x.2.1.2.2.2.2.1), .val (.bool x.2.1.2.2.2.2.2.1), .val (.string x.2.1.2.2.2.2.2.2.1)]]⟩) (by kernel_rfl) fun x R kn kx kr => decimal_Nearest_p1_eq x.1.2.1 x.1.2.2.1 x.2.1.1 x.2.1.2.1 x.2.1.2.2.1 x.2.1.2.2.2.1 x.2.1.2.2.2.2.1 x.2.1.2.2.2.2.2.1 x.2.1.2.2.2.2.2.2.1 R kn kx kr
theorem decimal_Nearest_p2_eq (out : Int) (b : Int) (n_minus : Bool) (n_whole : ByteArray) (n_digits : ByteArray) (n_point : Int) (n_plain : Bool) (n_down : Bool) (n_exp : ByteArray) (R : Type) (kn : QS → Option R) (kx : Nat → QS → Option R) (kr : QS → Option R) :
    interpQ decimal_Nearest_L decimal_Nearest_G 0 11 109 decimal_Nearest_b2 ⟨[(4, [], .c (.o (.hd 0 0))), (6, [], .c (.o (.val (.int .u32 out)))), (10, [], .c (.o (.val (.int .u32 b))))], [], [.cells 58 [.val (.bool n_minus), .val (.string n_whole), .val (.string n_digits), .val (.int .i64 n_point), .val (.bool n_plain), .val (.bool n_down), .val (.string n_exp)]]⟩ kn kx kr = (decimal_Nearest_p2 b n_minus n_whole n_digits n_point n_plain n_down n_exp).bind fun r => kx 3 ⟨[(4, [], .c (.o (.hd 0 0))), (6, [], .c (.o (.val (.int .u32 out)))), (10, [], .c (.o (.val (.int .u32 r))))], [], [.cells 58 [.val (.bool n_minus), .val (.string n_whole), .val (.string n_digits), .val (.int .i64 n_point), .val (.bool n_plain), .val (.bool n_down), .val (.string n_exp)]]⟩ := by
  refine loop_piece (step := fun x => decimal_Nearest_p2_step x n_minus n_whole n_digits n_point n_plain n_down n_exp) (enc := fun x => ⟨[(4, [], .c (.o (.hd 0 0))), (6, [], .c (.o (.val (.int .u32 out)))), (10, [], .c (.o (.val (.int .u32 x))))], [], [.cells 58 [.val (.bool n_minus), .val (.string n_whole), .val (.string n_digits), .val (.int .i64 n_point), .val (.bool n_plain), .val (.bool n_down), .val (.string n_exp)]]⟩) (ko := fun r => kx 3 ⟨[(4, [], .c (.o (.hd 0 0))), (6, [], .c (.o (.val (.int .u32 out)))), (10, [], .c (.o (.val (.int .u32 r))))], [], [.cells 58 [.val (.bool n_minus), .val (.string n_whole), .val (.string n_digits), .val (.int .i64 n_point), .val (.bool n_plain), .val (.bool n_down), .val (.string n_exp)]]⟩) ?_ ?_ b
  · intro x; kernel_rfl
  · intro x ki; simp only [decimal_Nearest_p2_step, -eq_self, bind_cond, bind_gd, Option.bind_assoc, Option.bind_some, Sum.elim_inl, Sum.elim_inr, bind_elim]; kernel_rfl
theorem decimal_Nearest_sub2 : SubOK decimal_Nearest_L decimal_Nearest_G 0 11 109 2 decimal_Nearest_b2 := sub_ok' decimal_Nearest_d2 (fun x R kn kx kr => (decimal_Nearest_p2 x.1.2.2.1 x.2.1.1 x.2.1.2.1 x.2.1.2.2.1 x.2.1.2.2.2.1 x.2.1.2.2.2.2.1 x.2.1.2.2.2.2.2.1 x.2.1.2.2.2.2.2.2.1).bind fun r => kx 3 ⟨[(4, [], .c (.o (.hd 0 0))), (6, [], .c (.o (.val (.int .u32 x.1.2.1)))), (10, [], .c (.o (.val (.int .u32 r))))], [], [.cells 58 [.val (.bool x.2.1.1), .val (.string x.2.1.2.1), .val (.string x.2.1.2.2.1), .val (.int .i64 x.2.1.2.2.2.1), .val (.bool x.2.1.2.2.2.2.1), .val (.bool x.2.1.2.2.2.2.2.1), .val (.string x.2.1.2.2.2.2.2.2.1)]]⟩) (by kernel_rfl) fun x R kn kx kr => decimal_Nearest_p2_eq x.1.2.1 x.1.2.2.1 x.2.1.1 x.2.1.2.1 x.2.1.2.2.1 x.2.1.2.2.2.1 x.2.1.2.2.2.2.1 x.2.1.2.2.2.2.2.1 x.2.1.2.2.2.2.2.2.1 R kn kx kr
theorem decimal_Nearest_p0_eq (out : Int) (n_minus : Bool) (n_whole : ByteArray) (n_digits : ByteArray) (n_point : Int) (n_plain : Bool) (n_down : Bool) (n_exp : ByteArray) (R : Type) (kn : QS → Option R) (kx : Nat → QS → Option R) (kr : QS → Option R) :
    Le ((decimal_Nearest_p0 out n_minus n_whole n_digits n_point n_plain n_down n_exp).bind fun r => kr ⟨[(2, [], .c (.o (.val (.int .u32 r.1)))), (3, [], .c (.o (.val (.int .i64 r.2))))], [], []⟩) (interpQ decimal_Nearest_L decimal_Nearest_G 0 11 109 decimal_Nearest_b0 ⟨[(4, [], .c (.o (.hd 0 0))), (6, [], .c (.o (.val (.int .u32 out))))], [], [.cells 58 [.val (.bool n_minus), .val (.string n_whole), .val (.string n_digits), .val (.int .i64 n_point), .val (.bool n_plain), .val (.bool n_down), .val (.string n_exp)]]⟩ kn kx kr) := by
  refine Le.trans (b :=
    (decimal_read_s (⟨#[48]⟩ : ByteArray) (1 : Int)).bind fun r20 =>
    (decimal_apart_s (⟨n_minus, n_whole, n_digits, n_point, n_plain, n_down, n_exp⟩ : decimal_number) r20.1).bind fun r21 =>
    gd (InI64 (n_point + r21)) <|
    bif ((decide (n_digits = (⟨#[]⟩ : ByteArray))) || (decide ((n_point + r21) < (-60 : Int)))) then (
      (fun r => kr ⟨[(2, [], .c (.o (.val (.int .u32 r.1)))), (3, [], .c (.o (.val (.int .i64 r.2))))], [], []⟩) (out, (0 : Int)))
    else (
      bif decide ((60 : Int) < (n_point + r21)) then (
        (fun r => kr ⟨[(2, [], .c (.o (.val (.int .u32 r.1)))), (3, [], .c (.o (.val (.int .i64 r.2))))], [], []⟩) ((bitOr .u32 out (2139095040 : Int)), (0 : Int)))
      else (
        demon guessP fun g22 =>
        (decimal_Nearest_p1 g22 n_minus n_whole n_digits n_point n_plain n_down n_exp).bind fun o25 =>
        (decimal_Nearest_p2 o25 n_minus n_whole n_digits n_point n_plain n_down n_exp).bind fun o28 =>
        (decimal_middle_s ((o28 - (1 : Int)) % 4294967296)).bind fun r29 =>
        (decimal_size_s (⟨n_minus, n_whole, n_digits, n_point, n_plain, n_down, n_exp⟩ : decimal_number) r29).bind fun r30 =>
        bif (((decide ((0 : Int) < o28)) && (decide ((bitAnd .u32 o28 (1 : Int)) = (1 : Int)))) && (decide (r30 = (0 : Int)))) then (
          (fun r => kr ⟨[(2, [], .c (.o (.val (.int .u32 r.1)))), (3, [], .c (.o (.val (.int .i64 r.2))))], [], []⟩) ((bitOr .u32 out ((o28 - (1 : Int)) % 4294967296)), (0 : Int)))
        else (
          (decimal_middle_s o28).bind fun r31 =>
          (decimal_size_s (⟨n_minus, n_whole, n_digits, n_point, n_plain, n_down, n_exp⟩ : decimal_number) r31).bind fun r32 =>
          bif (((decide (o28 < (2139095040 : Int))) && (decide ((bitAnd .u32 o28 (1 : Int)) = (1 : Int)))) && (decide (r32 = (0 : Int)))) then (
            (fun r => kr ⟨[(2, [], .c (.o (.val (.int .u32 r.1)))), (3, [], .c (.o (.val (.int .i64 r.2))))], [], []⟩) ((bitOr .u32 out ((o28 + (1 : Int)) % 4294967296)), (0 : Int)))
          else (
            (fun r => kr ⟨[(2, [], .c (.o (.val (.int .u32 r.1)))), (3, [], .c (.o (.val (.int .i64 r.2))))], [], []⟩) ((bitOr .u32 out o28), (0 : Int))))))) ?_ (Le.of_eq (by kernel_rfl))
  unfold decimal_Nearest_p0
  repeat' (first | exact Le.refl _ | refine Le.gdb ?_ | refine Le.condb ?_ ?_ | refine Le.demonb guessP_ne (fun _ => ?_) | refine Le.bindb (fun _ => ?_) | refine Le.elimb (fun _ => ?_) (fun _ => ?_))
theorem decimal_Nearest_sub0 : SubOK decimal_Nearest_L decimal_Nearest_G 0 11 109 0 decimal_Nearest_b0 := sub_le decimal_Nearest_d0 (fun x R kn kx kr => (decimal_Nearest_p0 x.1.2.1 x.2.1.1 x.2.1.2.1 x.2.1.2.2.1 x.2.1.2.2.2.1 x.2.1.2.2.2.2.1 x.2.1.2.2.2.2.2.1 x.2.1.2.2.2.2.2.2.1).bind fun r => kr ⟨[(2, [], .c (.o (.val (.int .u32 r.1)))), (3, [], .c (.o (.val (.int .i64 r.2))))], [], []⟩) (by kernel_rfl) fun x R kn kx kr => decimal_Nearest_p0_eq x.1.2.1 x.2.1.1 x.2.1.2.1 x.2.1.2.2.1 x.2.1.2.2.2.1 x.2.1.2.2.2.2.1 x.2.1.2.2.2.2.2.1 x.2.1.2.2.2.2.2.2.1 R kn kx kr
theorem decimal_Nearest_subs : subsOK decimal_Nearest_L decimal_Nearest_G 0 11 109 decimal_Nearest_q := subs_of (show AllSub decimal_Nearest_L decimal_Nearest_G 0 11 109 [(0, decimal_Nearest_b0), (1, decimal_Nearest_b1), (2, decimal_Nearest_b2)] from ⟨decimal_Nearest_sub0, decimal_Nearest_sub1, decimal_Nearest_sub2, trivial⟩)
theorem decimal_Nearest_eq (text : ByteArray) (R : Type) (k : SV → List SB → Option R) :
    fnQ decimal_Nearest_L decimal_Nearest_G 11 109 decimal_Nearest_q [.tmp 2, .tmp 3] [.c (.o (.val (.string text)))] [] k = (decimal_Nearest_s text).bind fun r => k (.tup [.o (.val (.int .u32 r.1)), .o (.val (.int .i64 r.2))]) [] := by
  simp only [decimal_Nearest_s, -eq_self, bind_cond, bind_gd, Option.bind_assoc, Option.bind_some, Sum.elim_inl, Sum.elim_inr, bind_elim]
  kernel_rfl
def decimal_Nearest_da := (dCons (dVC (dCO dS)) dNil)
def decimal_Nearest_db := (dNil : Dec Unit (List SB))
noncomputable def decimal_Nearest_c : CS := fun args hp R k => (Dec.d decimal_Nearest_da args).bind fun x => (Dec.d decimal_Nearest_db hp).bind fun y => (decimal_Nearest_s x.1).bind fun r => k (.tup [.o (.val (.int .u32 r.1)), .o (.val (.int .i64 r.2))]) []
theorem decimal_Nearest_val : ValidS Tryd.prog 21 decimal_Nearest_c :=
  val_ok decimal_Nearest_chk 11 decimal_Nearest_Gok decimal_Nearest_da decimal_Nearest_db 0 (fun x y R k => (decimal_Nearest_s x.1).bind fun r => k (.tup [.o (.val (.int .u32 r.1)), .o (.val (.int .i64 r.2))]) []) (by kernel_rfl)
    (fun x y R k => by simp only [Option.bind_assoc, Option.bind_some]) (fun x => Nat.le_of_ble_eq_true rfl) (fun y => rfl) decimal_Nearest_subs fun x y => decimal_Nearest_eq x.1 _ _
noncomputable def decimal_Nearest_w : CQ := liftV [] decimal_Nearest_c
theorem decimal_Nearest_ok : ValidQ Tryd.prog 21 decimal_Nearest_w := liftV_valid decimal_Nearest_val

/-! ### signet/signetref2.Nearest -/
/-! ### signet/signetlaw2.DecimalNears -/
/-! ### signet/signetlaw2.started -/
def signetlaw2_started_q : IQ :=
  (.seq
  (.reg 0 none [
    ⟨(some 0), .mv (.v (.bool false)), none⟩])
  (.seq
  (.reg 2 none [
    ⟨(some 8), .call 15 [(.v (.string ⟨#[45, 49, 50]⟩))], none⟩,
    ⟨(some 7), .mv (.t 8), none⟩,
    ⟨(some 9), .extract (.t 7) 0, none⟩,
    ⟨(some 10), .extract (.t 7) 1, none⟩,
    ⟨(some 1), .mv (.t 9), none⟩,
    ⟨(some 2), .mv (.t 10), none⟩])
  (.seq
  (.reg 4 none [
    ⟨(some 12), .call 19 [(.v (.string ⟨#[49, 101, 50]⟩)), (.v (.string ⟨#[57, 57, 46, 53]⟩))], none⟩,
    ⟨(some 11), .mv (.t 12), none⟩,
    ⟨(some 13), .extract (.t 11) 0, none⟩,
    ⟨(some 14), .extract (.t 11) 1, none⟩,
    ⟨(some 3), .mv (.t 13), none⟩,
    ⟨(some 4), .mv (.t 14), none⟩])
  (.seq
  (.reg 6 none [
    ⟨(some 16), .call 21 [(.v (.string ⟨#[48, 46, 53]⟩))], none⟩,
    ⟨(some 15), .mv (.t 16), none⟩,
    ⟨(some 17), .extract (.t 15) 0, none⟩,
    ⟨(some 18), .extract (.t 15) 1, none⟩,
    ⟨(some 5), .mv (.t 17), none⟩,
    ⟨(some 6), .mv (.t 18), none⟩])
  (.seq
  (.reg 0 none [
    ⟨(some 19), .call 17 [(.v (.string ⟨#[49, 46, 53, 101, 45, 51]⟩))], none⟩,
    ⟨(some 20), .mv (.t 19), none⟩,
    ⟨(some 21), .call 17 [(.v (.string ⟨#[49, 46]⟩))], some (20, true)⟩,
    ⟨(some 22), .un .not (.t 21), some (20, true)⟩,
    ⟨(some 23), .pick (.t 20) (.t 22) (.v (.bool false)), none⟩,
    ⟨(some 24), .mv (.t 23), none⟩,
    ⟨(some 25), .mv (.t 1), some (24, true)⟩,
    ⟨(some 26), .bin false .eql (.t 25) (.v (.int .i64 (-12))), some (24, true)⟩,
    ⟨(some 27), .pick (.t 24) (.t 26) (.v (.bool false)), none⟩,
    ⟨(some 28), .mv (.t 27), none⟩,
    ⟨(some 29), .mv (.t 2), some (28, true)⟩,
    ⟨(some 30), .pick (.t 28) (.t 29) (.v (.bool false)), none⟩,
    ⟨(some 31), .mv (.t 30), none⟩,
    ⟨(some 32), .mv (.t 3), some (31, true)⟩,
    ⟨(some 33), .bin false .eql (.t 32) (.v (.int .i64 1)), some (31, true)⟩,
    ⟨(some 34), .pick (.t 31) (.t 33) (.v (.bool false)), none⟩,
    ⟨(some 35), .mv (.t 34), none⟩,
    ⟨(some 36), .mv (.t 4), some (35, true)⟩,
    ⟨(some 37), .bin false .eql (.t 36) (.v (.int .i64 0)), some (35, true)⟩,
    ⟨(some 38), .pick (.t 35) (.t 37) (.v (.bool false)), none⟩,
    ⟨(some 39), .mv (.t 38), none⟩,
    ⟨(some 40), .mv (.t 5), some (39, true)⟩,
    ⟨(some 41), .bin false .eql (.t 40) (.v (.int .u32 1056964608)), some (39, true)⟩,
    ⟨(some 42), .pick (.t 39) (.t 41) (.v (.bool false)), none⟩,
    ⟨(some 43), .mv (.t 42), none⟩,
    ⟨(some 44), .mv (.t 6), some (43, true)⟩,
    ⟨(some 45), .bin false .eql (.t 44) (.v (.int .i64 0)), some (43, true)⟩,
    ⟨(some 46), .pick (.t 43) (.t 45) (.v (.bool false)), none⟩,
    ⟨(some 47), .mv (.t 46), none⟩,
    ⟨(some 48), .call 13 [(.v (.int .u32 1056964608))], some (47, true)⟩,
    ⟨(some 49), .bin false .eql (.t 48) (.v (.string ⟨#[48, 46, 53]⟩)), some (47, true)⟩,
    ⟨(some 50), .pick (.t 47) (.t 49) (.v (.bool false)), none⟩,
    ⟨(some 0), .mv (.t 50), none⟩])
  (.canon [] [0] .ret))))))
theorem signetlaw2_started_chk : chk Tryd.prog 23 [] = some (signetlaw2_started_q.erase, [.tmp 0], 51) := by kernel_rfl
noncomputable def signetlaw2_started_s : Option Bool :=
  (decimal_Whole_s (⟨#[45, 49, 50]⟩ : ByteArray)).bind fun r1 =>
  (decimal_Compare_s (⟨#[49, 101, 50]⟩ : ByteArray) (⟨#[57, 57, 46, 53]⟩ : ByteArray)).bind fun r2 =>
  (decimal_Nearest_s (⟨#[48, 46, 53]⟩ : ByteArray)).bind fun r3 =>
  (decimal_Valid_s (⟨#[49, 46, 53, 101, 45, 51]⟩ : ByteArray)).bind fun r4 =>
  bif r4 then (
    (decimal_Valid_s (⟨#[49, 46]⟩ : ByteArray)).bind fun r5 =>
    bif (((((((!r5) && (decide (r1.1 = (-12 : Int)))) && r1.2) && (decide (r2.1 = (1 : Int)))) && (decide (r2.2 = (0 : Int)))) && (decide (r3.1 = (1056964608 : Int)))) && (decide (r3.2 = (0 : Int)))) then (
      (decimal_Exact_s (1056964608 : Int)).bind fun r6 =>
      some (decide (r6 = (⟨#[48, 46, 53]⟩ : ByteArray))))
    else (
      some false))
  else (
    some false)
noncomputable def signetlaw2_started_G : Nat → Option CQ := tblQ [(15, decimal_Whole_w), (19, decimal_Compare_w), (21, decimal_Nearest_w), (17, decimal_Valid_w), (13, decimal_Exact_w)]
theorem signetlaw2_started_Gok : ∀ f C, signetlaw2_started_G f = some C → ValidQ Tryd.prog f C := tblQ_valid ⟨decimal_Whole_ok, decimal_Compare_ok, decimal_Nearest_ok, decimal_Valid_ok, decimal_Exact_ok, trivial⟩
noncomputable def signetlaw2_started_L : Nat → SubQ := tblL []
theorem signetlaw2_started_subs : subsOK signetlaw2_started_L signetlaw2_started_G 0 7 51 signetlaw2_started_q := subs_of (show AllSub signetlaw2_started_L signetlaw2_started_G 0 7 51 [] from trivial)
theorem signetlaw2_started_eq (R : Type) (k : SV → List SB → Option R) :
    fnQ signetlaw2_started_L signetlaw2_started_G 7 51 signetlaw2_started_q [.tmp 0] [] [] k = (signetlaw2_started_s).bind fun r => k (.c (.o (.val (.bool r)))) [] := by
  simp only [signetlaw2_started_s, -eq_self, bind_cond, bind_gd, Option.bind_assoc, Option.bind_some, Sum.elim_inl, Sum.elim_inr, bind_elim]
  kernel_rfl
def signetlaw2_started_da := (dNil : Dec Unit (List SV))
def signetlaw2_started_db := (dNil : Dec Unit (List SB))
noncomputable def signetlaw2_started_c : CS := fun args hp R k => (Dec.d signetlaw2_started_da args).bind fun x => (Dec.d signetlaw2_started_db hp).bind fun y => (signetlaw2_started_s).bind fun r => k (.c (.o (.val (.bool r)))) []
theorem signetlaw2_started_val : ValidS Tryd.prog 23 signetlaw2_started_c :=
  val_ok signetlaw2_started_chk 7 signetlaw2_started_Gok signetlaw2_started_da signetlaw2_started_db 0 (fun x y R k => (signetlaw2_started_s).bind fun r => k (.c (.o (.val (.bool r)))) []) (by kernel_rfl)
    (fun x y R k => by simp only [Option.bind_assoc, Option.bind_some]) (fun x => Nat.le_of_ble_eq_true rfl) (fun y => rfl) signetlaw2_started_subs fun x y => signetlaw2_started_eq  _ _
noncomputable def signetlaw2_started_w : CQ := liftV [] signetlaw2_started_c
theorem signetlaw2_started_ok : ValidQ Tryd.prog 23 signetlaw2_started_w := liftV_valid signetlaw2_started_val

/-! ### signet/signetlaw2.less -/
/-! ### signet/signetlaw2.DecimalOrders -/
/-! ### signet/signetlaw2.rank -/
/-! ### signet/signetlaw2.DecimalClimbs -/
end Go.Proofs.YtdibapfehdhfjaaDoor
