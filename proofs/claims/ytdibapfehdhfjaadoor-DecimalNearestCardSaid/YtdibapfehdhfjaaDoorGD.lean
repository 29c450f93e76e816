/-
  Functions as the engine reads them (printed by gen.py).
-/
import Derived.Test.YtdibapfehdhfjaaDoorEngO
import Derived.Test.YtdibapfehdhfjaaDoorProg
import Derived.Test.YtdibapfehdhfjaaDoorGC
namespace Go.Proofs.YtdibapfehdhfjaaDoor
open Go.Eng
set_option linter.unusedVariables false
set_option linter.unusedSimpArgs false
set_option maxRecDepth 100000
structure strings_Builder where
  addr : Bool
  buf : (List Int)

/-! ### signet/decimal.Whole -/
def decimal_Whole_b0 : IQ :=
  (.loop [4, 6, 23, 24]
    (.seq
    (.reg 25 none [
      ⟨(some 25), .bin false .lss (.t 24) (.t 23), none⟩])
    (.seq
    (.cond (.t 25)
      .skip
      (.canon [] [4, 6] (.exit 0)))
    (.seq
    (.block 1
      (.seq
      (.reg 7 none [
        ⟨(some 26), .mv (.t 24), none⟩,
        ⟨(some 7), .mv (.t 26), none⟩])
      (.seq
      (.reg 8 none [
        ⟨(some 27), .faddr 1 (.t 4), none⟩,
        ⟨(some 28), .load none (.t 27), none⟩,
        ⟨(some 29), .mv (.t 7), none⟩,
        ⟨(some 30), .index (.t 28) (.t 29), none⟩,
        ⟨(some 31), .bin false .sub (.t 30) (.v (.int .u8 48)), none⟩,
        ⟨(some 32), .conv false .u64 (.t 31), none⟩,
        ⟨(some 8), .mv (.t 32), none⟩])
      (.seq
      (.seq
      (.reg 37 none [
        ⟨(some 33), .mv (.t 6), none⟩,
        ⟨(some 34), .mv (.t 8), none⟩,
        ⟨(some 35), .bin false .sub (.v (.int .u64 9223372036854775808)) (.t 34), none⟩,
        ⟨(some 36), .bin false .quo (.t 35) (.v (.int .u64 10)), none⟩,
        ⟨(some 37), .bin false .gtr (.t 33) (.t 36), none⟩])
      (.cond (.t 37)
        (.seq
        (.reg 3 none [
          ⟨(some 2), .mv (.v (.int .i64 0)), none⟩,
          ⟨(some 3), .mv (.v (.bool false)), none⟩])
        (.canon [] [2, 3] .ret))
        .skip))
      (.reg 6 none [
        ⟨(some 38), .mv (.t 6), none⟩,
        ⟨(some 39), .bin false .mul (.v (.int .u64 10)) (.t 38), none⟩,
        ⟨(some 40), .mv (.t 8), none⟩,
        ⟨(some 41), .bin false .add (.t 39) (.t 40), none⟩,
        ⟨(some 6), .mv (.t 41), none⟩])))))
    (.reg 24 none [
      ⟨(some 42), .bin false .add (.t 24) (.v (.int .i64 1)), none⟩,
      ⟨(some 24), .mv (.t 42), none⟩])))))
def decimal_Whole_q : IQ :=
  (.seq
  (.reg 3 none [
    ⟨(some 2), .mv (.v (.int .i64 0)), none⟩,
    ⟨(some 3), .mv (.v (.bool false)), none⟩])
  (.seq
  (.reg 5 none [
    ⟨(some 10), .mv (.t 0), none⟩,
    ⟨(some 11), .call 36 [(.t 10), (.v (.int .i64 0))], none⟩,
    ⟨(some 9), .mv (.t 11), none⟩,
    ⟨(some 12), .extract (.t 9) 0, none⟩,
    ⟨(some 13), .extract (.t 9) 1, none⟩,
    ⟨(some 4), .alloc 58 [.bool false, .string ⟨#[]⟩, .string ⟨#[]⟩, .int .i64 0, .bool false, .bool false, .string ⟨#[]⟩], none⟩,
    ⟨none, .store 7 (.t 4) (.t 12), none⟩,
    ⟨(some 5), .mv (.t 13), none⟩])
  (.seq
  (.seq
  (.reg 20 none [
    ⟨(some 14), .mv (.t 5), none⟩,
    ⟨(some 15), .un .not (.t 14), none⟩,
    ⟨(some 16), .mv (.t 15), none⟩,
    ⟨(some 17), .faddr 4 (.t 4), some (16, false)⟩,
    ⟨(some 18), .load none (.t 17), some (16, false)⟩,
    ⟨(some 19), .un .not (.t 18), some (16, false)⟩,
    ⟨(some 20), .pick (.t 16) (.v (.bool true)) (.t 19), none⟩])
  (.cond (.t 20)
    (.seq
    (.reg 3 none [
      ⟨(some 2), .mv (.v (.int .i64 0)), none⟩,
      ⟨(some 3), .mv (.v (.bool false)), none⟩])
    (.canon [] [2, 3] .ret))
    .skip))
  (.seq
  (.reg 6 none [
    ⟨(some 6), .mv (.v (.int .u64 0)), none⟩])
  (.seq
  (.seq
  (.reg 24 none [
    ⟨(some 21), .faddr 1 (.t 4), none⟩,
    ⟨(some 22), .load none (.t 21), none⟩,
    ⟨(some 23), .lenS (.t 22), none⟩,
    ⟨(some 24), .mv (.v (.int .i64 0)), none⟩])
  (.block 0
    (.canon [] [4, 6, 23, 24] (.sub 0 decimal_Whole_b0))))
  (.seq
  (.seq
  (.reg 49 none [
    ⟨(some 43), .faddr 0 (.t 4), none⟩,
    ⟨(some 44), .load none (.t 43), none⟩,
    ⟨(some 45), .un .not (.t 44), none⟩,
    ⟨(some 46), .mv (.t 45), none⟩,
    ⟨(some 47), .mv (.t 6), some (46, true)⟩,
    ⟨(some 48), .bin false .eql (.t 47) (.v (.int .u64 9223372036854775808)), some (46, true)⟩,
    ⟨(some 49), .pick (.t 46) (.t 48) (.v (.bool false)), none⟩])
  (.cond (.t 49)
    (.seq
    (.reg 3 none [
      ⟨(some 2), .mv (.v (.int .i64 0)), none⟩,
      ⟨(some 3), .mv (.v (.bool false)), none⟩])
    (.canon [] [2, 3] .ret))
    .skip))
  (.seq
  (.seq
  (.reg 51 none [
    ⟨(some 50), .faddr 0 (.t 4), none⟩,
    ⟨(some 51), .load none (.t 50), none⟩])
  (.cond (.t 51)
    (.reg 6 none [
      ⟨(some 52), .mv (.t 6), none⟩,
      ⟨(some 53), .un .neg (.t 52), none⟩,
      ⟨(some 6), .mv (.t 53), none⟩])
    .skip))
  (.seq
  (.reg 3 none [
    ⟨(some 54), .mv (.t 6), none⟩,
    ⟨(some 55), .conv true .i64 (.t 54), none⟩,
    ⟨(some 2), .mv (.t 55), none⟩,
    ⟨(some 3), .mv (.v (.bool true)), none⟩])
  (.canon [] [2, 3] .ret)))))))))
theorem decimal_Whole_chk : chk Tryd.prog 15 [55] = some (decimal_Whole_q.erase, [.tmp 2, .tmp 3], 56) := by kernel_rfl
noncomputable def decimal_Whole_p0_step (v : Int) (x23_ : Int) (x24_ : Int) (n_whole : ByteArray) : Option ((Int × Int) ⊕ ((Int × Bool) ⊕ Int)) :=
  bif decide (x24_ < x23_) then (
    gd (0 ≤ x24_ ∧ x24_ < n_whole.size) <|
    gd (0 ≤ (((9223372036854775808 : Int) - ((((bAt n_whole x24_) - (48 : Int)) % 256) % 18446744073709551616)) % 18446744073709551616) ∧ (((9223372036854775808 : Int) - ((((bAt n_whole x24_) - (48 : Int)) % 256) % 18446744073709551616)) % 18446744073709551616) ≤ 18446744073709551615 ∧ 1 ≤ (10 : Int)) <|
    bif decide (((((9223372036854775808 : Int) - ((((bAt n_whole x24_) - (48 : Int)) % 256) % 18446744073709551616)) % 18446744073709551616) / (10 : Int)) < v) then (
      some (.inr (.inl ((0 : Int), false))))
    else (
      gd (InI64 (x24_ + (1 : Int))) <|
      some (.inl ((((((10 : Int) * v) % 18446744073709551616) + ((((bAt n_whole x24_) - (48 : Int)) % 256) % 18446744073709551616)) % 18446744073709551616), (x24_ + (1 : Int))))))
  else (
    some (.inr (.inr v)))
noncomputable def decimal_Whole_p0 (v : Int) (x23_ : Int) (x24_ : Int) (n_whole : ByteArray) : Option ((Int × Bool) ⊕ Int) :=
  whileO (fun x : (Int × Int) => decimal_Whole_p0_step x.1 x23_ x.2 n_whole) (v, x24_)
noncomputable def decimal_Whole_s (text : ByteArray) : Option (Int × Bool) :=
  (decimal_read_s text (0 : Int)).bind fun r3 =>
  bif ((!r3.2) || (!r3.1.plain)) then (
    some ((0 : Int), false))
  else (
    (decimal_Whole_p0 (0 : Int) (r3.1.whole.size : Int) (0 : Int) r3.1.whole).bind fun o4 => (Sum.elim (fun (o4_0 : Int × Bool) =>
      some (o4_0.1, o4_0.2)) (fun (o4_1 : Int) =>
      bif ((!r3.1.minus) && (decide (o4_1 = (9223372036854775808 : Int)))) then (
        some ((0 : Int), false))
      else (
        bif r3.1.minus then (
          some (w64 ((0 - o4_1) % 18446744073709551616), true))
        else (
          some (w64 o4_1, true))))) o4)
noncomputable def decimal_Whole_G : Nat → Option CQ := tblQ [(36, decimal_read_w)]
theorem decimal_Whole_Gok : ∀ f C, decimal_Whole_G f = some C → ValidQ Tryd.prog f C := tblQ_valid ⟨decimal_read_ok, trivial⟩
def decimal_Whole_d0 := (dQS (dCons (dSl 4 (dVC (dCO (dH 0 0)))) (dCons (dSl 6 (dVC (dCO (dI .u64)))) (dCons (dSl 23 (dVC (dCO (dI .i64)))) (dCons (dSl 24 (dVC (dCO (dI .i64)))) dNil)))) (dCons (dCells 58 (dCons dB (dCons dS (dCons dS (dCons (dI .i64) (dCons dB (dCons dB (dCons dS dNil)))))))) dNil))
noncomputable def decimal_Whole_l0 : SubQ := fun S R kn kx kr => (Dec.d decimal_Whole_d0 S).bind fun x => (decimal_Whole_p0 x.1.2.1 x.1.2.2.1 x.1.2.2.2.1 x.2.1.2.1).bind fun r => (Sum.elim (fun (r_0 : Int × Bool) => kr ⟨[(2, [], .c (.o (.val (.int .i64 r_0.1)))), (3, [], .c (.o (.val (.bool r_0.2))))], [], []⟩) (fun (r_1 : Int) => kx 0 ⟨[(4, [], .c (.o (.hd 0 0))), (6, [], .c (.o (.val (.int .u64 r_1))))], [], [.cells 58 [.val (.bool x.2.1.1), .val (.string x.2.1.2.1), .val (.string x.2.1.2.2.1), .val (.int .i64 x.2.1.2.2.2.1), .val (.bool x.2.1.2.2.2.2.1), .val (.bool x.2.1.2.2.2.2.2.1), .val (.string x.2.1.2.2.2.2.2.2.1)]]⟩)) r
noncomputable def decimal_Whole_L : Nat → SubQ := tblL [(0, decimal_Whole_l0)]
theorem decimal_Whole_p0_eq (v : Int) (x23_ : Int) (x24_ : Int) (n_minus : Bool) (n_whole : ByteArray) (n_digits : ByteArray) (n_point : Int) (n_plain : Bool) (n_down : Bool) (n_exp : ByteArray) (R : Type) (kn : QS → Option R) (kx : Nat → QS → Option R) (kr : QS → Option R) :
    interpQ decimal_Whole_L decimal_Whole_G 0 25 56 decimal_Whole_b0 ⟨[(4, [], .c (.o (.hd 0 0))), (6, [], .c (.o (.val (.int .u64 v)))), (23, [], .c (.o (.val (.int .i64 x23_)))), (24, [], .c (.o (.val (.int .i64 x24_))))], [], [.cells 58 [.val (.bool n_minus), .val (.string n_whole), .val (.string n_digits), .val (.int .i64 n_point), .val (.bool n_plain), .val (.bool n_down), .val (.string n_exp)]]⟩ kn kx kr = (decimal_Whole_p0 v x23_ x24_ n_whole).bind fun r => (Sum.elim (fun (r_0 : Int × Bool) => kr ⟨[(2, [], .c (.o (.val (.int .i64 r_0.1)))), (3, [], .c (.o (.val (.bool r_0.2))))], [], []⟩) (fun (r_1 : Int) => kx 0 ⟨[(4, [], .c (.o (.hd 0 0))), (6, [], .c (.o (.val (.int .u64 r_1))))], [], [.cells 58 [.val (.bool n_minus), .val (.string n_whole), .val (.string n_digits), .val (.int .i64 n_point), .val (.bool n_plain), .val (.bool n_down), .val (.string n_exp)]]⟩)) r := by
  refine loop_piece (step := fun x => decimal_Whole_p0_step x.1 x23_ x.2 n_whole) (enc := fun x => ⟨[(4, [], .c (.o (.hd 0 0))), (6, [], .c (.o (.val (.int .u64 x.1)))), (23, [], .c (.o (.val (.int .i64 x23_)))), (24, [], .c (.o (.val (.int .i64 x.2))))], [], [.cells 58 [.val (.bool n_minus), .val (.string n_whole), .val (.string n_digits), .val (.int .i64 n_point), .val (.bool n_plain), .val (.bool n_down), .val (.string n_exp)]]⟩) (ko := fun r => (Sum.elim (fun (r_0 : Int × Bool) => kr ⟨[(2, [], .c (.o (.val (.int .i64 r_0.1)))), (3, [], .c (.o (.val (.bool r_0.2))))], [], []⟩) (fun (r_1 : Int) => kx 0 ⟨[(4, [], .c (.o (.hd 0 0))), (6, [], .c (.o (.val (.int .u64 r_1))))], [], [.cells 58 [.val (.bool n_minus), .val (.string n_whole), .val (.string n_digits), .val (.int .i64 n_point), .val (.bool n_plain), .val (.bool n_down), .val (.string n_exp)]]⟩)) r) ?_ ?_ (v, x24_)
  · intro x; kernel_rfl
  · intro x ki; simp only [decimal_Whole_p0_step, -eq_self, bind_cond, bind_gd, Option.bind_assoc, Option.bind_some, Sum.elim_inl, Sum.elim_inr, bind_elim]; kernel_rfl
theorem decimal_Whole_sub0 : SubOK decimal_Whole_L decimal_Whole_G 0 25 56 0 decimal_Whole_b0 := sub_ok' decimal_Whole_d0 (fun x R kn kx kr => (decimal_Whole_p0 x.1.2.1 x.1.2.2.1 x.1.2.2.2.1 x.2.1.2.1).bind fun r => (Sum.elim (fun (r_0 : Int × Bool) => kr ⟨[(2, [], .c (.o (.val (.int .i64 r_0.1)))), (3, [], .c (.o (.val (.bool r_0.2))))], [], []⟩) (fun (r_1 : Int) => kx 0 ⟨[(4, [], .c (.o (.hd 0 0))), (6, [], .c (.o (.val (.int .u64 r_1))))], [], [.cells 58 [.val (.bool x.2.1.1), .val (.string x.2.1.2.1), .val (.string x.2.1.2.2.1), .val (.int .i64 x.2.1.2.2.2.1), .val (.bool x.2.1.2.2.2.2.1), .val (.bool x.2.1.2.2.2.2.2.1), .val (.string x.2.1.2.2.2.2.2.2.1)]]⟩)) r) (by kernel_rfl) fun x R kn kx kr => decimal_Whole_p0_eq x.1.2.1 x.1.2.2.1 x.1.2.2.2.1 x.2.1.1 x.2.1.2.1 x.2.1.2.2.1 x.2.1.2.2.2.1 x.2.1.2.2.2.2.1 x.2.1.2.2.2.2.2.1 x.2.1.2.2.2.2.2.2.1 R kn kx kr
theorem decimal_Whole_subs : subsOK decimal_Whole_L decimal_Whole_G 0 25 56 decimal_Whole_q := subs_of (show AllSub decimal_Whole_L decimal_Whole_G 0 25 56 [(0, decimal_Whole_b0)] from ⟨decimal_Whole_sub0, trivial⟩)
theorem decimal_Whole_eq (text : ByteArray) (R : Type) (k : SV → List SB → Option R) :
    fnQ decimal_Whole_L decimal_Whole_G 25 56 decimal_Whole_q [.tmp 2, .tmp 3] [.c (.o (.val (.string text)))] [] k = (decimal_Whole_s text).bind fun r => k (.tup [.o (.val (.int .i64 r.1)), .o (.val (.bool r.2))]) [] := by
  simp only [decimal_Whole_s, -eq_self, bind_cond, bind_gd, Option.bind_assoc, Option.bind_some, Sum.elim_inl, Sum.elim_inr, bind_elim]
  kernel_rfl
def decimal_Whole_da := (dCons (dVC (dCO dS)) dNil)
def decimal_Whole_db := (dNil : Dec Unit (List SB))
noncomputable def decimal_Whole_c : CS := fun args hp R k => (Dec.d decimal_Whole_da args).bind fun x => (Dec.d decimal_Whole_db hp).bind fun y => (decimal_Whole_s x.1).bind fun r => k (.tup [.o (.val (.int .i64 r.1)), .o (.val (.bool r.2))]) []
theorem decimal_Whole_val : ValidS Tryd.prog 15 decimal_Whole_c :=
  val_ok decimal_Whole_chk 25 decimal_Whole_Gok decimal_Whole_da decimal_Whole_db 0 (fun x y R k => (decimal_Whole_s x.1).bind fun r => k (.tup [.o (.val (.int .i64 r.1)), .o (.val (.bool r.2))]) []) (by kernel_rfl)
    (fun x y R k => by simp only [Option.bind_assoc, Option.bind_some]) (fun x => Nat.le_of_ble_eq_true rfl) (fun y => rfl) decimal_Whole_subs fun x y => decimal_Whole_eq x.1 _ _
noncomputable def decimal_Whole_w : CQ := liftV [] decimal_Whole_c
theorem decimal_Whole_ok : ValidQ Tryd.prog 15 decimal_Whole_w := liftV_valid decimal_Whole_val

/-! ### signet/decimal.Valid -/
def decimal_Valid_q : IQ :=
  (.seq
  (.reg 2 none [
    ⟨(some 2), .mv (.v (.bool false)), none⟩])
  (.seq
  (.reg 4 none [
    ⟨(some 6), .mv (.t 0), none⟩,
    ⟨(some 7), .call 36 [(.t 6), (.v (.int .i64 0))], none⟩,
    ⟨(some 5), .mv (.t 7), none⟩,
    ⟨(some 8), .extract (.t 5) 0, none⟩,
    ⟨(some 9), .extract (.t 5) 1, none⟩,
    ⟨(some 3), .alloc 58 [.bool false, .string ⟨#[]⟩, .string ⟨#[]⟩, .int .i64 0, .bool false, .bool false, .string ⟨#[]⟩], none⟩,
    ⟨none, .store 7 (.t 3) (.t 8), none⟩,
    ⟨(some 4), .mv (.t 9), none⟩])
  (.seq
  (.reg 2 none [
    ⟨(some 10), .mv (.t 4), none⟩,
    ⟨(some 2), .mv (.t 10), none⟩])
  (.canon [] [2] .ret))))
theorem decimal_Valid_chk : chk Tryd.prog 17 [] = some (decimal_Valid_q.erase, [.tmp 2], 11) := by kernel_rfl
noncomputable def decimal_Valid_s (text : ByteArray) : Option Bool :=
  (decimal_read_s text (0 : Int)).bind fun r1 =>
  some r1.2
noncomputable def decimal_Valid_G : Nat → Option CQ := tblQ [(36, decimal_read_w)]
theorem decimal_Valid_Gok : ∀ f C, decimal_Valid_G f = some C → ValidQ Tryd.prog f C := tblQ_valid ⟨decimal_read_ok, trivial⟩
noncomputable def decimal_Valid_L : Nat → SubQ := tblL []
theorem decimal_Valid_subs : subsOK decimal_Valid_L decimal_Valid_G 0 5 11 decimal_Valid_q := subs_of (show AllSub decimal_Valid_L decimal_Valid_G 0 5 11 [] from trivial)
theorem decimal_Valid_eq (text : ByteArray) (R : Type) (k : SV → List SB → Option R) :
    fnQ decimal_Valid_L decimal_Valid_G 5 11 decimal_Valid_q [.tmp 2] [.c (.o (.val (.string text)))] [] k = (decimal_Valid_s text).bind fun r => k (.c (.o (.val (.bool r)))) [] := by
  simp only [decimal_Valid_s, -eq_self, bind_cond, bind_gd, Option.bind_assoc, Option.bind_some, Sum.elim_inl, Sum.elim_inr, bind_elim]
  kernel_rfl
def decimal_Valid_da := (dCons (dVC (dCO dS)) dNil)
def decimal_Valid_db := (dNil : Dec Unit (List SB))
noncomputable def decimal_Valid_c : CS := fun args hp R k => (Dec.d decimal_Valid_da args).bind fun x => (Dec.d decimal_Valid_db hp).bind fun y => (decimal_Valid_s x.1).bind fun r => k (.c (.o (.val (.bool r)))) []
theorem decimal_Valid_val : ValidS Tryd.prog 17 decimal_Valid_c :=
  val_ok decimal_Valid_chk 5 decimal_Valid_Gok decimal_Valid_da decimal_Valid_db 0 (fun x y R k => (decimal_Valid_s x.1).bind fun r => k (.c (.o (.val (.bool r)))) []) (by kernel_rfl)
    (fun x y R k => by simp only [Option.bind_assoc, Option.bind_some]) (fun x => Nat.le_of_ble_eq_true rfl) (fun y => rfl) decimal_Valid_subs fun x y => decimal_Valid_eq x.1 _ _
noncomputable def decimal_Valid_w : CQ := liftV [] decimal_Valid_c
theorem decimal_Valid_ok : ValidQ Tryd.prog 17 decimal_Valid_w := liftV_valid decimal_Valid_val

/-! ### signet/decimal.parts -/
def decimal_parts_q : IQ :=
  (.seq
  (.reg 3 none [
    ⟨(some 2), .mv (.v (.int .u64 0)), none⟩,
    ⟨(some 3), .mv (.v (.int .i64 0)), none⟩])
  (.seq
  (.reg 5 none [
    ⟨(some 6), .mv (.t 0), none⟩,
    ⟨(some 7), .bin false .and (.t 6) (.v (.int .u32 8388607)), none⟩,
    ⟨(some 8), .conv false .u64 (.t 7), none⟩,
    ⟨(some 9), .mv (.t 0), none⟩,
    ⟨(some 10), .bin false .shr (.t 9) (.v (.int .u64 23)), none⟩,
    ⟨(some 11), .bin false .and (.t 10) (.v (.int .u32 255)), none⟩,
    ⟨(some 12), .conv false .i64 (.t 11), none⟩,
    ⟨(some 4), .mv (.t 8), none⟩,
    ⟨(some 5), .mv (.t 12), none⟩])
  (.seq
  (.seq
  (.reg 14 none [
    ⟨(some 13), .mv (.t 5), none⟩,
    ⟨(some 14), .bin false .eql (.t 13) (.v (.int .i64 0)), none⟩])
  (.cond (.t 14)
    (.seq
    (.reg 3 none [
      ⟨(some 15), .mv (.t 4), none⟩,
      ⟨(some 2), .mv (.t 15), none⟩,
      ⟨(some 3), .mv (.v (.int .i64 (-149))), none⟩])
    (.canon [] [2, 3] .ret))
    .skip))
  (.seq
  (.reg 3 none [
    ⟨(some 16), .mv (.t 4), none⟩,
    ⟨(some 17), .bin false .or (.t 16) (.v (.int .u64 8388608)), none⟩,
    ⟨(some 18), .mv (.t 5), none⟩,
    ⟨(some 19), .bin false .sub (.t 18) (.v (.int .i64 150)), none⟩,
    ⟨(some 2), .mv (.t 17), none⟩,
    ⟨(some 3), .mv (.t 19), none⟩])
  (.canon [] [2, 3] .ret)))))
theorem decimal_parts_chk : chk Tryd.prog 32 [] = some (decimal_parts_q.erase, [.tmp 2, .tmp 3], 20) := by kernel_rfl
noncomputable def decimal_parts_s (bits : Int) : Option (Int × Int) :=
  gd (0 ≤ (23 : Int)) <|
  gd (InI64 (bitAnd .u32 (bits / 8388608) (255 : Int))) <|
  bif decide ((bitAnd .u32 (bits / 8388608) (255 : Int)) = (0 : Int)) then (
    some (((bitAnd .u32 bits (8388607 : Int)) % 18446744073709551616), (-149 : Int)))
  else (
    gd (InI64 ((bitAnd .u32 (bits / 8388608) (255 : Int)) - (150 : Int))) <|
    some ((bitOr .u64 ((bitAnd .u32 bits (8388607 : Int)) % 18446744073709551616) (8388608 : Int)), ((bitAnd .u32 (bits / 8388608) (255 : Int)) - (150 : Int))))
noncomputable def decimal_parts_G : Nat → Option CQ := tblQ []
theorem decimal_parts_Gok : ∀ f C, decimal_parts_G f = some C → ValidQ Tryd.prog f C := fun f C h => by cases h
noncomputable def decimal_parts_L : Nat → SubQ := tblL []
theorem decimal_parts_subs : subsOK decimal_parts_L decimal_parts_G 0 6 20 decimal_parts_q := subs_of (show AllSub decimal_parts_L decimal_parts_G 0 6 20 [] from trivial)
theorem decimal_parts_eq (bits : Int) (R : Type) (k : SV → List SB → Option R) :
    fnQ decimal_parts_L decimal_parts_G 6 20 decimal_parts_q [.tmp 2, .tmp 3] [.c (.o (.val (.int .u32 bits)))] [] k = (decimal_parts_s bits).bind fun r => k (.tup [.o (.val (.int .u64 r.1)), .o (.val (.int .i64 r.2))]) [] := by
  simp only [decimal_parts_s, -eq_self, bind_cond, bind_gd, Option.bind_assoc, Option.bind_some, Sum.elim_inl, Sum.elim_inr, bind_elim]
  kernel_rfl
def decimal_parts_da := (dCons (dVC (dCO (dI .u32))) dNil)
def decimal_parts_db := (dNil : Dec Unit (List SB))
noncomputable def decimal_parts_c : CS := fun args hp R k => (Dec.d decimal_parts_da args).bind fun x => (Dec.d decimal_parts_db hp).bind fun y => (decimal_parts_s x.1).bind fun r => k (.tup [.o (.val (.int .u64 r.1)), .o (.val (.int .i64 r.2))]) []
theorem decimal_parts_val : ValidS Tryd.prog 32 decimal_parts_c :=
  val_ok decimal_parts_chk 6 decimal_parts_Gok decimal_parts_da decimal_parts_db 0 (fun x y R k => (decimal_parts_s x.1).bind fun r => k (.tup [.o (.val (.int .u64 r.1)), .o (.val (.int .i64 r.2))]) []) (by kernel_rfl)
    (fun x y R k => by simp only [Option.bind_assoc, Option.bind_some]) (fun x => Nat.le_of_ble_eq_true rfl) (fun y => rfl) decimal_parts_subs fun x y => decimal_parts_eq x.1 _ _
noncomputable def decimal_parts_w : CQ := liftV [] decimal_parts_c
theorem decimal_parts_ok : ValidQ Tryd.prog 32 decimal_parts_w := liftV_valid decimal_parts_val

/-! ### signet/decimal.times -/
def decimal_times_b0 : IQ :=
  (.loop [0, 1, 5, 8, 9, 10]
    (.seq
    (.reg 11 none [
      ⟨(some 11), .bin false .lss (.t 10) (.t 9), none⟩])
    (.seq
    (.cond (.t 11)
      .skip
      (.canon [] [0, 5] (.exit 0)))
    (.seq
    (.block 1
      (.seq
      (.reg 7 none [
        ⟨(some 12), .mv (.t 10), none⟩,
        ⟨(some 13), .iaddr 1 (.t 8) (.t 10), none⟩,
        ⟨(some 14), .load none (.t 13), none⟩,
        ⟨(some 6), .mv (.t 12), none⟩,
        ⟨(some 7), .mv (.t 14), none⟩])
      (.seq
      (.reg 7 none [
        ⟨(some 15), .mv (.t 7), none⟩,
        ⟨(some 16), .mv (.t 1), none⟩,
        ⟨(some 17), .bin false .mul (.t 15) (.t 16), none⟩,
        ⟨(some 18), .mv (.t 5), none⟩,
        ⟨(some 19), .bin false .add (.t 17) (.t 18), none⟩,
        ⟨(some 7), .mv (.t 19), none⟩])
      (.reg 5 none [
        ⟨(some 20), .mv (.t 0), none⟩,
        ⟨(some 21), .mv (.t 6), none⟩,
        ⟨(some 22), .mv (.t 7), none⟩,
        ⟨(some 23), .bin false .rem (.t 22) (.v (.int .u8 10)), none⟩,
        ⟨(some 24), .mv (.t 7), none⟩,
        ⟨(some 25), .bin false .quo (.t 24) (.v (.int .u8 10)), none⟩,
        ⟨(some 26), .iaddr 1 (.t 20) (.t 21), none⟩,
        ⟨none, .store 1 (.t 26) (.t 23), none⟩,
        ⟨(some 5), .mv (.t 25), none⟩]))))
    (.reg 10 none [
      ⟨(some 27), .bin false .add (.t 10) (.v (.int .i64 1)), none⟩,
      ⟨(some 10), .mv (.t 27), none⟩])))))
def decimal_times_q : IQ :=
  (.seq
  (.reg 4 none [
    ⟨(some 4), .mv (.v (.slice none 0 0)), none⟩])
  (.seq
  (.reg 5 none [
    ⟨(some 5), .mv (.v (.int .u8 0)), none⟩])
  (.seq
  (.seq
  (.reg 10 none [
    ⟨(some 8), .mv (.t 0), none⟩,
    ⟨(some 9), .len (.t 8), none⟩,
    ⟨(some 10), .mv (.v (.int .i64 0)), none⟩])
  (.block 0
    (.canon [] [0, 1, 5, 8, 9, 10] (.sub 0 decimal_times_b0))))
  (.seq
  (.seq
  (.reg 29 none [
    ⟨(some 28), .mv (.t 5), none⟩,
    ⟨(some 29), .bin false .gtr (.t 28) (.v (.int .u8 0)), none⟩])
  (.cond (.t 29)
    (.reg 0 none [
      ⟨(some 30), .mv (.t 0), none⟩,
      ⟨(some 31), .mv (.t 5), none⟩,
      ⟨(some 32), .bslice 5 1 1 [.int .u8 0] [(0, (.t 31))], none⟩,
      ⟨(some 33), .append 5 1 1 [.int .u8 0] (.t 30) (.t 32), none⟩,
      ⟨(some 0), .mv (.t 33), none⟩])
    .skip))
  (.seq
  (.reg 4 none [
    ⟨(some 34), .mv (.t 0), none⟩,
    ⟨(some 4), .mv (.t 34), none⟩])
  (.canon [(4, none, .u8, 5), (1000004, none, .u8, 5)] [4] .ret))))))
theorem decimal_times_chk : chk Tryd.prog 46 [] = some (decimal_times_q.erase, [.tmp 4], 35) := by kernel_rfl
noncomputable def decimal_times_p0_step (by_ : Int) (c : Int) (x9_ : Int) (x10_ : Int) (l : List Int) : Option ((Int × Int × (List Int)) ⊕ (Int × (List Int))) :=
  bif decide (x10_ < x9_) then (
    gd (0 ≤ x10_ ∧ x10_ < l.length) <|
    gd ((Int.toNat x10_) < l.length) <|
    gd (0 ≤ (((((l.getD (Int.toNat x10_) (ET.dft .u8)) * by_) % 256) + c) % 256) ∧ 1 ≤ (10 : Int)) <|
    gd (0 ≤ (((((l.getD (Int.toNat x10_) (ET.dft .u8)) * by_) % 256) + c) % 256) ∧ (((((l.getD (Int.toNat x10_) (ET.dft .u8)) * by_) % 256) + c) % 256) ≤ 255 ∧ 1 ≤ (10 : Int)) <|
    gd (0 ≤ x10_ ∧ x10_ < l.length) <|
    gd ((Int.toNat x10_) < l.length) <|
    gd (InI64 (x10_ + (1 : Int))) <|
    some (.inl (((((((l.getD (Int.toNat x10_) (ET.dft .u8)) * by_) % 256) + c) % 256) / (10 : Int)), (x10_ + (1 : Int)), (l.set (Int.toNat x10_) ((((((l.getD (Int.toNat x10_) (ET.dft .u8)) * by_) % 256) + c) % 256) % (10 : Int))))))
  else (
    some (.inr (c, l)))
noncomputable def decimal_times_p0 (by_ : Int) (c : Int) (x9_ : Int) (x10_ : Int) (l : List Int) : Option (Int × (List Int)) :=
  whileO (fun x : (Int × Int × (List Int)) => decimal_times_p0_step by_ x.1 x9_ x.2.1 x.2.2) (c, x10_, l)
noncomputable def decimal_times_s (l : (List Int)) (by_ : Int) : Option ((List Int)) :=
  (decimal_times_p0 by_ (0 : Int) (l.length : Int) (0 : Int) l).bind fun o3 =>
  bif decide ((0 : Int) < o3.1) then (
    gd (o3.2.length + ([o3.1] : List Int).length ≤ 9223372036854775807 ∧ (o3.2.length + ([o3.1] : List Int).length) * 1 ≤ 140737488355328) <|
    some (o3.2 ++ [o3.1]))
  else (
    some o3.2)
noncomputable def decimal_times_G : Nat → Option CQ := tblQ []
theorem decimal_times_Gok : ∀ f C, decimal_times_G f = some C → ValidQ Tryd.prog f C := fun f C h => by cases h
def decimal_times_d0 := (dQS (dCons (dSl 0 (dVC (dCO (dO 0)))) (dCons (dSl 1 (dVC (dCO (dI .u8)))) (dCons (dSl 5 (dVC (dCO (dI .u8)))) (dCons (dSl 8 (dVC (dCO (dO 0)))) (dCons (dSl 9 (dVC (dCO (dI .i64)))) (dCons (dSl 10 (dVC (dCO (dI .i64)))) dNil)))))) (dCons (dRow .u8 5) dNil))
noncomputable def decimal_times_l0 : SubQ := fun S R kn kx kr => (Dec.d decimal_times_d0 S).bind fun x => (decimal_times_p0 x.1.2.1 x.1.2.2.1 x.1.2.2.2.2.1 x.1.2.2.2.2.2.1 x.2.1).bind fun r => kx 0 ⟨[(0, [], .c (.o (.own 0))), (5, [], .c (.o (.val (.int .u8 r.1))))], [], [.row .u8 5 r.2]⟩
noncomputable def decimal_times_L : Nat → SubQ := tblL [(0, decimal_times_l0)]
theorem decimal_times_p0_eq (by_ : Int) (c : Int) (x9_ : Int) (x10_ : Int) (l : List Int) (R : Type) (kn : QS → Option R) (kx : Nat → QS → Option R) (kr : QS → Option R) :
    interpQ decimal_times_L decimal_times_G 1 11 35 decimal_times_b0 ⟨[(0, [], .c (.o (.own 0))), (1, [], .c (.o (.val (.int .u8 by_)))), (5, [], .c (.o (.val (.int .u8 c)))), (8, [], .c (.o (.own 0))), (9, [], .c (.o (.val (.int .i64 x9_)))), (10, [], .c (.o (.val (.int .i64 x10_))))], [], [.row .u8 5 l]⟩ kn kx kr = (decimal_times_p0 by_ c x9_ x10_ l).bind fun r => kx 0 ⟨[(0, [], .c (.o (.own 0))), (5, [], .c (.o (.val (.int .u8 r.1))))], [], [.row .u8 5 r.2]⟩ := by
  refine loop_piece (step := fun x => decimal_times_p0_step by_ x.1 x9_ x.2.1 x.2.2) (enc := fun x => ⟨[(0, [], .c (.o (.own 0))), (1, [], .c (.o (.val (.int .u8 by_)))), (5, [], .c (.o (.val (.int .u8 x.1)))), (8, [], .c (.o (.own 0))), (9, [], .c (.o (.val (.int .i64 x9_)))), (10, [], .c (.o (.val (.int .i64 x.2.1))))], [], [.row .u8 5 x.2.2]⟩) (ko := fun r => kx 0 ⟨[(0, [], .c (.o (.own 0))), (5, [], .c (.o (.val (.int .u8 r.1))))], [], [.row .u8 5 r.2]⟩) ?_ ?_ (c, x10_, l)
  · intro x; kernel_rfl
  · intro x ki; simp only [decimal_times_p0_step, -eq_self, bind_cond, bind_gd, Option.bind_assoc, Option.bind_some, Sum.elim_inl, Sum.elim_inr, bind_elim]; kernel_rfl
theorem decimal_times_sub0 : SubOK decimal_times_L decimal_times_G 1 11 35 0 decimal_times_b0 := sub_ok' decimal_times_d0 (fun x R kn kx kr => (decimal_times_p0 x.1.2.1 x.1.2.2.1 x.1.2.2.2.2.1 x.1.2.2.2.2.2.1 x.2.1).bind fun r => kx 0 ⟨[(0, [], .c (.o (.own 0))), (5, [], .c (.o (.val (.int .u8 r.1))))], [], [.row .u8 5 r.2]⟩) (by kernel_rfl) fun x R kn kx kr => decimal_times_p0_eq x.1.2.1 x.1.2.2.1 x.1.2.2.2.2.1 x.1.2.2.2.2.2.1 x.2.1 R kn kx kr
theorem decimal_times_subs : subsOK decimal_times_L decimal_times_G 1 11 35 decimal_times_q := subs_of (show AllSub decimal_times_L decimal_times_G 1 11 35 [(0, decimal_times_b0)] from ⟨decimal_times_sub0, trivial⟩)
theorem decimal_times_eq (l : (List Int)) (by_ : Int) (R : Type) (k : SV → List SB → Option R) :
    fnQ decimal_times_L decimal_times_G 11 35 decimal_times_q [.tmp 4] [.c (.o (.own 0)), .c (.o (.val (.int .u8 by_)))] [.row .u8 5 l] k = (decimal_times_s l by_).bind fun r => k (.c (.o (.own 1))) [.dead, .row .u8 5 r] := by
  simp only [decimal_times_s, -eq_self, bind_cond, bind_gd, Option.bind_assoc, Option.bind_some, Sum.elim_inl, Sum.elim_inr, bind_elim]
  kernel_rfl
def decimal_times_da := (dCons (dVC (dCO (dO 0))) (dCons (dVC (dCO (dI .u8))) dNil))
def decimal_times_db := (dCons (dRow .u8 5) dNil)
noncomputable def decimal_times_c : CS := fun args hp R k => (Dec.d decimal_times_da args).bind fun x => (Dec.d decimal_times_db hp).bind fun y => (decimal_times_s y.1 x.2.1).bind fun r => k (.c (.o (.own 1))) [.dead, .row .u8 5 r]
theorem decimal_times_val : ValidS Tryd.prog 46 decimal_times_c :=
  val_ok decimal_times_chk 11 decimal_times_Gok decimal_times_da decimal_times_db 1 (fun x y R k => (decimal_times_s y.1 x.2.1).bind fun r => k (.c (.o (.own 1))) [.dead, .row .u8 5 r]) (by kernel_rfl)
    (fun x y R k => by simp only [Option.bind_assoc, Option.bind_some]) (fun x => Nat.le_of_ble_eq_true rfl) (fun y => rfl) decimal_times_subs fun x y => decimal_times_eq y.1 x.2.1 _ _
noncomputable def decimal_times_w : CQ := prepQ [(0, none, some (.u8, 5))] (liftQ [true] decimal_times_c)
theorem decimal_times_ok : ValidQ Tryd.prog 46 decimal_times_w := prep_loud decimal_times_val

/-! ### (*strings.Builder).copyCheck -/
def strings_Builder_copyCheck_q : IQ :=
  (.join [(2000000, some 0, .u8, 0)] []
  (.seq
  (.reg 6 none [
    ⟨(some 2), .mv (.t 0), none⟩,
    ⟨(some 3), .ext .nilck [(.t 2)], none⟩,
    ⟨(some 4), .faddr 0 (.t 3), none⟩,
    ⟨(some 5), .load none (.t 4), none⟩,
    ⟨(some 6), .ext (.ptrEq false) [(.t 5), (.v (.pointer none))], none⟩])
  (.cond (.t 6)
    (.reg 0 none [
      ⟨(some 7), .mv (.t 0), none⟩,
      ⟨(some 8), .mv (.t 0), none⟩,
      ⟨(some 9), .ext .toUns [(.t 8)], none⟩,
      ⟨(some 10), .ext .noEsc [(.t 9)], none⟩,
      ⟨(some 11), .ext (.fromUns 72 2) [(.t 10)], none⟩,
      ⟨(some 12), .ext .nilck [(.t 7)], none⟩,
      ⟨(some 13), .faddr 0 (.t 12), none⟩,
      ⟨none, .store 1 (.t 13) (.t 11), none⟩])
    (.seq
    (.reg 19 none [
      ⟨(some 14), .mv (.t 0), none⟩,
      ⟨(some 15), .ext .nilck [(.t 14)], none⟩,
      ⟨(some 16), .faddr 0 (.t 15), none⟩,
      ⟨(some 17), .load none (.t 16), none⟩,
      ⟨(some 18), .mv (.t 0), none⟩,
      ⟨(some 19), .ext (.ptrEq true) [(.t 17), (.t 18)], none⟩])
    (.cond (.t 19)
      .bad
      .skip)))))
theorem strings_Builder_copyCheck_chk : chk Tryd.prog 62 [] = some (strings_Builder_copyCheck_q.erase, [], 20) := by kernel_rfl
noncomputable def strings_Builder_copyCheck_s (b : strings_Builder) : Option strings_Builder :=
  bif (!b.addr) then (
    some (⟨true, b.buf⟩ : strings_Builder))
  else (
    bif (!b.addr) then (
      none)
    else (
      some b))
noncomputable def strings_Builder_copyCheck_G : Nat → Option CQ := tblQ []
theorem strings_Builder_copyCheck_Gok : ∀ f C, strings_Builder_copyCheck_G f = some C → ValidQ Tryd.prog f C := fun f C h => by cases h
noncomputable def strings_Builder_copyCheck_L : Nat → SubQ := tblL []
theorem strings_Builder_copyCheck_subs : subsOK strings_Builder_copyCheck_L strings_Builder_copyCheck_G 2 2 20 strings_Builder_copyCheck_q := subs_of (show AllSub strings_Builder_copyCheck_L strings_Builder_copyCheck_G 2 2 20 [] from trivial)
theorem strings_Builder_copyCheck_eq (b : strings_Builder) (R : Type) (k : SV → List SB → Option R) :
    fnQ strings_Builder_copyCheck_L strings_Builder_copyCheck_G 2 20 strings_Builder_copyCheck_q [] [.c (.o (.hd 0 0))] [.cells 72 [.opt b.addr 0 0, .own 1], .view .u8 b.buf] k = (strings_Builder_copyCheck_s b).bind fun r => k (.tup []) [.cells 72 [.opt r.addr 0 0, .own 1], .view .u8 b.buf] := by
  simp only [strings_Builder_copyCheck_s, -eq_self, bind_cond, bind_gd, Option.bind_assoc, Option.bind_some, Sum.elim_inl, Sum.elim_inr, bind_elim]
  kernel_rfl
def strings_Builder_copyCheck_da := (dCons (dVC (dCO (dH 0 0))) dNil)
def strings_Builder_copyCheck_db := (dCons (dCells 72 (dCons (dP 0 0) (dCons (dO 1) dNil))) (dCons (dView .u8) dNil))
noncomputable def strings_Builder_copyCheck_c : CS := fun args hp R k => (Dec.d strings_Builder_copyCheck_da args).bind fun x => (Dec.d strings_Builder_copyCheck_db hp).bind fun y => (strings_Builder_copyCheck_s (⟨y.1.1, y.2.1⟩ : strings_Builder)).bind fun r => k (.tup []) [.cells 72 [.opt r.addr 0 0, .own 1], .view .u8 y.2.1]
theorem strings_Builder_copyCheck_val : ValidS Tryd.prog 62 strings_Builder_copyCheck_c :=
  val_ok strings_Builder_copyCheck_chk 2 strings_Builder_copyCheck_Gok strings_Builder_copyCheck_da strings_Builder_copyCheck_db 2 (fun x y R k => (strings_Builder_copyCheck_s (⟨y.1.1, y.2.1⟩ : strings_Builder)).bind fun r => k (.tup []) [.cells 72 [.opt r.addr 0 0, .own 1], .view .u8 y.2.1]) (by kernel_rfl)
    (fun x y R k => by simp only [Option.bind_assoc, Option.bind_some]) (fun x => Nat.le_of_ble_eq_true rfl) (fun y => rfl) strings_Builder_copyCheck_subs fun x y => strings_Builder_copyCheck_eq (⟨y.1.1, y.2.1⟩ : strings_Builder) _ _
noncomputable def strings_Builder_copyCheck_w : CQ := prepQ [(0, some 0, none), (0, some 1, some (.u8, 5))] (liftQ [true, false] strings_Builder_copyCheck_c)
theorem strings_Builder_copyCheck_ok : ValidQ Tryd.prog 62 strings_Builder_copyCheck_w := prep_loud strings_Builder_copyCheck_val

/-! ### (*strings.Builder).WriteByte -/
def strings_Builder_WriteByte_q : IQ :=
  (.seq
  (.reg 4 none [
    ⟨(some 4), .mv (.v (.nilIface)), none⟩])
  (.seq
  (.reg 6 none [
    ⟨(some 5), .mv (.t 0), none⟩,
    ⟨(some 6), .call 62 [(.t 5)], none⟩])
  (.seq
  (.reg 0 none [
    ⟨(some 7), .mv (.t 0), none⟩,
    ⟨(some 8), .mv (.t 0), none⟩,
    ⟨(some 9), .ext .nilck [(.t 8)], none⟩,
    ⟨(some 10), .faddr 1 (.t 9), none⟩,
    ⟨(some 11), .load none (.t 10), none⟩,
    ⟨(some 12), .mv (.t 1), none⟩,
    ⟨(some 13), .bslice 5 1 1 [.int .u8 0] [(0, (.t 12))], none⟩,
    ⟨(some 14), .append 5 1 1 [.int .u8 0] (.t 11) (.t 13), none⟩,
    ⟨(some 15), .ext .nilck [(.t 7)], none⟩,
    ⟨(some 16), .faddr 1 (.t 15), none⟩,
    ⟨none, .store 1 (.t 16) (.t 14), none⟩])
  (.seq
  (.reg 4 none [
    ⟨(some 4), .mv (.v (.nilIface)), none⟩])
  (.canon [(2000000, some 0, .u8, 0)] [4] .ret)))))
theorem strings_Builder_WriteByte_chk : chk Tryd.prog 47 [] = some (strings_Builder_WriteByte_q.erase, [.tmp 4], 17) := by kernel_rfl
noncomputable def strings_Builder_WriteByte_s (b : strings_Builder) (c : Int) : Option (strings_Builder × Unit) :=
  (strings_Builder_copyCheck_s b).bind fun r3 =>
  gd (b.buf.length + ([c] : List Int).length ≤ 9223372036854775807 ∧ (b.buf.length + ([c] : List Int).length) * 1 ≤ 140737488355328) <|
  some ((⟨r3.addr, (b.buf ++ [c])⟩ : strings_Builder), ())
noncomputable def strings_Builder_WriteByte_G : Nat → Option CQ := tblQ [(62, strings_Builder_copyCheck_w)]
theorem strings_Builder_WriteByte_Gok : ∀ f C, strings_Builder_WriteByte_G f = some C → ValidQ Tryd.prog f C := tblQ_valid ⟨strings_Builder_copyCheck_ok, trivial⟩
noncomputable def strings_Builder_WriteByte_L : Nat → SubQ := tblL []
theorem strings_Builder_WriteByte_subs : subsOK strings_Builder_WriteByte_L strings_Builder_WriteByte_G 2 5 17 strings_Builder_WriteByte_q := subs_of (show AllSub strings_Builder_WriteByte_L strings_Builder_WriteByte_G 2 5 17 [] from trivial)
theorem strings_Builder_WriteByte_eq (b : strings_Builder) (c : Int) (R : Type) (k : SV → List SB → Option R) :
    fnQ strings_Builder_WriteByte_L strings_Builder_WriteByte_G 5 17 strings_Builder_WriteByte_q [.tmp 4] [.c (.o (.hd 0 0)), .c (.o (.val (.int .u8 c)))] [.cells 72 [.opt b.addr 0 0, .own 1], .row .u8 5 b.buf] k = (strings_Builder_WriteByte_s b c).bind fun r => k (.c (.o (.val (.nilIface)))) [.cells 72 [.opt r.1.addr 0 0, .own 2], .dead, .row .u8 5 r.1.buf] := by
  simp only [strings_Builder_WriteByte_s, -eq_self, bind_cond, bind_gd, Option.bind_assoc, Option.bind_some, Sum.elim_inl, Sum.elim_inr, bind_elim]
  kernel_rfl
def strings_Builder_WriteByte_da := (dCons (dVC (dCO (dH 0 0))) (dCons (dVC (dCO (dI .u8))) dNil))
def strings_Builder_WriteByte_db := (dCons (dCells 72 (dCons (dP 0 0) (dCons (dO 1) dNil))) (dCons (dRow .u8 5) dNil))
noncomputable def strings_Builder_WriteByte_c : CS := fun args hp R k => (Dec.d strings_Builder_WriteByte_da args).bind fun x => (Dec.d strings_Builder_WriteByte_db hp).bind fun y => (strings_Builder_WriteByte_s (⟨y.1.1, y.2.1⟩ : strings_Builder) x.2.1).bind fun r => k (.c (.o (.val (.nilIface)))) [.cells 72 [.opt r.1.addr 0 0, .own 2], .dead, .row .u8 5 r.1.buf]
theorem strings_Builder_WriteByte_val : ValidS Tryd.prog 47 strings_Builder_WriteByte_c :=
  val_ok strings_Builder_WriteByte_chk 5 strings_Builder_WriteByte_Gok strings_Builder_WriteByte_da strings_Builder_WriteByte_db 2 (fun x y R k => (strings_Builder_WriteByte_s (⟨y.1.1, y.2.1⟩ : strings_Builder) x.2.1).bind fun r => k (.c (.o (.val (.nilIface)))) [.cells 72 [.opt r.1.addr 0 0, .own 2], .dead, .row .u8 5 r.1.buf]) (by kernel_rfl)
    (fun x y R k => by simp only [Option.bind_assoc, Option.bind_some]) (fun x => Nat.le_of_ble_eq_true rfl) (fun y => rfl) strings_Builder_WriteByte_subs fun x y => strings_Builder_WriteByte_eq (⟨y.1.1, y.2.1⟩ : strings_Builder) x.2.1 _ _
noncomputable def strings_Builder_WriteByte_w : CQ := prepQ [(0, some 0, none), (0, some 1, some (.u8, 5))] (liftQ [true, true] strings_Builder_WriteByte_c)
theorem strings_Builder_WriteByte_ok : ValidQ Tryd.prog 47 strings_Builder_WriteByte_w := prep_loud strings_Builder_WriteByte_val

/-! ### (*strings.Builder).String -/
def strings_Builder_String_q : IQ :=
  (.seq
  (.reg 2 none [
    ⟨(some 2), .mv (.v (.string ⟨#[]⟩)), none⟩])
  (.seq
  (.reg 2 (some [0, 1, 2, 3, 4, 5, 6, 7, 8, 9, 10, 11]) [
    ⟨(some 3), .mv (.t 0), none⟩,
    ⟨(some 4), .ext .nilck [(.t 3)], none⟩,
    ⟨(some 5), .faddr 1 (.t 4), none⟩,
    ⟨(some 6), .load none (.t 5), none⟩,
    ⟨(some 7), .ext .sdata [(.t 6)], none⟩,
    ⟨(some 8), .mv (.t 0), none⟩,
    ⟨(some 9), .ext .nilck [(.t 8)], none⟩,
    ⟨(some 10), .faddr 1 (.t 9), none⟩,
    ⟨(some 11), .load none (.t 10), none⟩,
    ⟨(some 12), .len (.t 11), none⟩,
    ⟨(some 13), .ext (.ustr 5) [(.t 7), (.t 12)], none⟩,
    ⟨(some 2), .mv (.t 13), none⟩])
  (.canon [(2000000, some 0, .u8, 0)] [2] .ret)))
theorem strings_Builder_String_chk : chk Tryd.prog 48 [] = some (strings_Builder_String_q.erase, [.tmp 2], 14) := by kernel_rfl
noncomputable def strings_Builder_String_s (b : strings_Builder) : Option (strings_Builder × ByteArray) :=
  gd (0 < b.buf.length) <|
  gd ((b.buf.length : Int) = b.buf.length ∧ 0 < b.buf.length ∧ ∀ x ∈ b.buf, 0 ≤ x ∧ x < 256) <|
  some ((⟨b.addr, []⟩ : strings_Builder), (bytesI b.buf))
noncomputable def strings_Builder_String_G : Nat → Option CQ := tblQ []
theorem strings_Builder_String_Gok : ∀ f C, strings_Builder_String_G f = some C → ValidQ Tryd.prog f C := fun f C h => by cases h
noncomputable def strings_Builder_String_L : Nat → SubQ := tblL []
theorem strings_Builder_String_subs : subsOK strings_Builder_String_L strings_Builder_String_G 2 3 14 strings_Builder_String_q := subs_of (show AllSub strings_Builder_String_L strings_Builder_String_G 2 3 14 [] from trivial)
theorem strings_Builder_String_eq (b : strings_Builder) (R : Type) (k : SV → List SB → Option R) :
    fnQ strings_Builder_String_L strings_Builder_String_G 3 14 strings_Builder_String_q [.tmp 2] [.c (.o (.hd 0 0))] [.cells 72 [.opt b.addr 0 0, .own 1], .row .u8 5 b.buf] k = (strings_Builder_String_s b).bind fun r => k (.c (.o (.val (.string r.2)))) [.cells 72 [.opt r.1.addr 0 0, .own 1], .dead] := by
  simp only [strings_Builder_String_s, -eq_self, bind_cond, bind_gd, Option.bind_assoc, Option.bind_some, Sum.elim_inl, Sum.elim_inr, bind_elim]
  kernel_rfl
def strings_Builder_String_da := (dCons (dVC (dCO (dH 0 0))) dNil)
def strings_Builder_String_db := (dCons (dCells 72 (dCons (dP 0 0) (dCons (dO 1) dNil))) (dCons (dRow .u8 5) dNil))
noncomputable def strings_Builder_String_c : CS := fun args hp R k => (Dec.d strings_Builder_String_da args).bind fun x => (Dec.d strings_Builder_String_db hp).bind fun y => (strings_Builder_String_s (⟨y.1.1, y.2.1⟩ : strings_Builder)).bind fun r => k (.c (.o (.val (.string r.2)))) [.cells 72 [.opt r.1.addr 0 0, .own 1], .dead]
theorem strings_Builder_String_val : ValidS Tryd.prog 48 strings_Builder_String_c :=
  val_ok strings_Builder_String_chk 3 strings_Builder_String_Gok strings_Builder_String_da strings_Builder_String_db 2 (fun x y R k => (strings_Builder_String_s (⟨y.1.1, y.2.1⟩ : strings_Builder)).bind fun r => k (.c (.o (.val (.string r.2)))) [.cells 72 [.opt r.1.addr 0 0, .own 1], .dead]) (by kernel_rfl)
    (fun x y R k => by simp only [Option.bind_assoc, Option.bind_some]) (fun x => Nat.le_of_ble_eq_true rfl) (fun y => rfl) strings_Builder_String_subs fun x y => strings_Builder_String_eq (⟨y.1.1, y.2.1⟩ : strings_Builder) _ _
noncomputable def strings_Builder_String_w : CQ := prepQ [(0, some 0, none), (0, some 1, some (.u8, 5))] (liftQ [true, true] strings_Builder_String_c)
theorem strings_Builder_String_ok : ValidQ Tryd.prog 48 strings_Builder_String_w := prep_loud strings_Builder_String_val

/-! ### signet/decimal.decimal -/
def decimal_decimal_b0 : IQ :=
  (.loop [0, 1, 5]
    (.seq
    (.seq
    (.reg 10 none [
      ⟨(some 9), .mv (.t 0), none⟩,
      ⟨(some 10), .bin false .gtr (.t 9) (.v (.int .u64 0)), none⟩])
    (.cond (.t 10)
      .skip
      (.canon [] [1, 5] (.exit 0))))
    (.seq
    (.block 1
      (.reg 5 none [
        ⟨(some 13), .mv (.t 5), none⟩,
        ⟨(some 14), .mv (.t 0), none⟩,
        ⟨(some 15), .bin false .rem (.t 14) (.v (.int .u64 10)), none⟩,
        ⟨(some 16), .conv false .u8 (.t 15), none⟩,
        ⟨(some 17), .bslice 5 1 1 [.int .u8 0] [(0, (.t 16))], none⟩,
        ⟨(some 18), .append 5 1 1 [.int .u8 0] (.t 13) (.t 17), none⟩,
        ⟨(some 5), .mv (.t 18), none⟩]))
    (.reg 0 none [
      ⟨(some 11), .mv (.t 0), none⟩,
      ⟨(some 12), .bin false .quo (.t 11) (.v (.int .u64 10)), none⟩,
      ⟨(some 0), .mv (.t 12), none⟩]))))
def decimal_decimal_b1 : IQ :=
  (.loop [5, 6, 23, 24]
    (.seq
    (.reg 25 none [
      ⟨(some 25), .bin false .lss (.t 24) (.t 23), none⟩])
    (.seq
    (.cond (.t 25)
      .skip
      (.canon [] [5, 6] (.exit 2)))
    (.seq
    (.block 3
      (.reg 5 none [
        ⟨(some 26), .mv (.t 5), none⟩,
        ⟨(some 27), .call 46 [(.t 26), (.v (.int .u8 2))], none⟩,
        ⟨(some 5), .mv (.t 27), none⟩]))
    (.reg 24 none [
      ⟨(some 28), .bin false .add (.t 24) (.v (.int .i64 1)), none⟩,
      ⟨(some 24), .mv (.t 28), none⟩])))))
def decimal_decimal_b2 : IQ :=
  (.loop [5, 6, 29, 30]
    (.seq
    (.reg 31 none [
      ⟨(some 31), .bin false .lss (.t 30) (.t 29), none⟩])
    (.seq
    (.cond (.t 31)
      .skip
      (.canon [] [5, 6] (.exit 4)))
    (.seq
    (.block 5
      (.reg 5 none [
        ⟨(some 32), .mv (.t 5), none⟩,
        ⟨(some 33), .call 46 [(.t 32), (.v (.int .u8 5))], none⟩,
        ⟨(some 5), .mv (.t 33), none⟩]))
    (.reg 30 none [
      ⟨(some 34), .bin false .add (.t 30) (.v (.int .i64 1)), none⟩,
      ⟨(some 30), .mv (.t 34), none⟩])))))
def decimal_decimal_b3 : IQ :=
  (.loop [5, 6]
    (.seq
    (.seq
    (.reg 38 none [
      ⟨(some 35), .mv (.t 5), none⟩,
      ⟨(some 36), .len (.t 35), none⟩,
      ⟨(some 37), .mv (.t 6), none⟩,
      ⟨(some 38), .bin false .leq (.t 36) (.t 37), none⟩])
    (.cond (.t 38)
      .skip
      (.canon [] [5, 6] (.exit 6))))
    (.block 7
      (.reg 5 none [
        ⟨(some 39), .mv (.t 5), none⟩,
        ⟨(some 40), .bslice 5 1 1 [.int .u8 0] [(0, (.v (.int .u8 0)))], none⟩,
        ⟨(some 41), .append 5 1 1 [.int .u8 0] (.t 39) (.t 40), none⟩,
        ⟨(some 5), .mv (.t 41), none⟩]))))
def decimal_decimal_b4 : IQ :=
  (.loop [5, 6, 7, 8]
    (.seq
    (.seq
    (.reg 46 none [
      ⟨(some 45), .mv (.t 8), none⟩,
      ⟨(some 46), .bin false .geq (.t 45) (.v (.int .i64 0)), none⟩])
    (.cond (.t 46)
      .skip
      (.canon [] [6, 7] (.exit 8))))
    (.seq
    (.block 9
      (.seq
      (.reg 54 none [
        ⟨(some 49), .mv (.t 5), none⟩,
        ⟨(some 50), .mv (.t 8), none⟩,
        ⟨(some 51), .iaddr 1 (.t 49) (.t 50), none⟩,
        ⟨(some 52), .load none (.t 51), none⟩,
        ⟨(some 53), .bin false .add (.v (.int .u8 48)) (.t 52), none⟩,
        ⟨(some 54), .call 47 [(.t 7), (.t 53)], none⟩])
      (.seq
      (.reg 61 none [
        ⟨(some 55), .mv (.t 8), none⟩,
        ⟨(some 56), .mv (.t 6), none⟩,
        ⟨(some 57), .bin false .eql (.t 55) (.t 56), none⟩,
        ⟨(some 58), .mv (.t 57), none⟩,
        ⟨(some 59), .mv (.t 8), some (58, true)⟩,
        ⟨(some 60), .bin false .gtr (.t 59) (.v (.int .i64 0)), some (58, true)⟩,
        ⟨(some 61), .pick (.t 58) (.t 60) (.v (.bool false)), none⟩])
      (.cond (.t 61)
        (.reg 62 none [
          ⟨(some 62), .call 47 [(.t 7), (.v (.int .u8 46))], none⟩])
        .skip))))
    (.reg 8 none [
      ⟨(some 47), .mv (.t 8), none⟩,
      ⟨(some 48), .bin false .sub (.t 47) (.v (.int .i64 1)), none⟩,
      ⟨(some 8), .mv (.t 48), none⟩]))))
def decimal_decimal_q : IQ :=
  (.seq
  (.reg 4 none [
    ⟨(some 4), .mv (.v (.string ⟨#[]⟩)), none⟩])
  (.seq
  (.reg 5 none [
    ⟨(some 5), .mv (.v (.slice none 0 0)), none⟩])
  (.seq
  (.block 0
    (.canon [(5, none, .u8, 5)] [0, 1, 5] (.sub 0 decimal_decimal_b0)))
  (.seq
  (.reg 6 none [
    ⟨(some 19), .mv (.t 1), none⟩,
    ⟨(some 20), .un .neg (.t 19), none⟩,
    ⟨(some 21), .mm true (.v (.int .i64 0)) (.t 20), none⟩,
    ⟨(some 6), .mv (.t 21), none⟩])
  (.seq
  (.seq
  (.reg 24 none [
    ⟨(some 22), .mv (.t 1), none⟩,
    ⟨(some 23), .mm true (.v (.int .i64 0)) (.t 22), none⟩,
    ⟨(some 24), .mv (.v (.int .i64 0)), none⟩])
  (.block 2
    (.canon [] [5, 6, 23, 24] (.sub 1 decimal_decimal_b1))))
  (.seq
  (.seq
  (.reg 30 none [
    ⟨(some 29), .mv (.t 6), none⟩,
    ⟨(some 30), .mv (.v (.int .i64 0)), none⟩])
  (.block 4
    (.canon [] [5, 6, 29, 30] (.sub 2 decimal_decimal_b2))))
  (.seq
  (.block 6
    (.canon [] [5, 6] (.sub 3 decimal_decimal_b3)))
  (.seq
  (.reg 7 none [
    ⟨(some 7), .alloc 72 [.pointer none, .slice none 0 0], none⟩])
  (.seq
  (.seq
  (.reg 8 none [
    ⟨(some 42), .mv (.t 5), none⟩,
    ⟨(some 43), .len (.t 42), none⟩,
    ⟨(some 44), .bin false .sub (.t 43) (.v (.int .i64 1)), none⟩,
    ⟨(some 8), .mv (.t 44), none⟩])
  (.block 8
    (.canon [(2000007, some 0, .u8, 0), (7, some 1, .u8, 5)] [5, 6, 7, 8] (.sub 4 decimal_decimal_b4))))
  (.seq
  (.seq
  (.reg 64 none [
    ⟨(some 63), .mv (.t 6), none⟩,
    ⟨(some 64), .bin false .eql (.t 63) (.v (.int .i64 0)), none⟩])
  (.cond (.t 64)
    (.seq
    (.reg 4 none [
      ⟨(some 65), .call 48 [(.t 7)], none⟩,
      ⟨(some 4), .mv (.t 65), none⟩])
    (.canon [] [4] .ret))
    .skip))
  (.seq
  (.reg 4 none [
    ⟨(some 66), .call 48 [(.t 7)], none⟩,
    ⟨(some 67), .call 49 [(.t 66), (.v (.string ⟨#[48]⟩))], none⟩,
    ⟨(some 68), .call 49 [(.t 67), (.v (.string ⟨#[46]⟩))], none⟩,
    ⟨(some 4), .mv (.t 68), none⟩])
  (.canon [] [4] .ret))))))))))))
theorem decimal_decimal_chk : chk Tryd.prog 33 [] = some (decimal_decimal_q.erase, [.tmp 4], 69) := by kernel_rfl
noncomputable def decimal_decimal_p0_step (f : Int) (l : List Int) : Option ((Int × (List Int)) ⊕ ((List Int))) :=
  bif decide ((0 : Int) < f) then (
    gd (0 ≤ f ∧ 1 ≤ (10 : Int)) <|
    gd (l.length + ([((f % (10 : Int)) % 256)] : List Int).length ≤ 9223372036854775807 ∧ (l.length + ([((f % (10 : Int)) % 256)] : List Int).length) * 1 ≤ 140737488355328) <|
    gd (0 ≤ f ∧ f ≤ 18446744073709551615 ∧ 1 ≤ (10 : Int)) <|
    some (.inl ((f / (10 : Int)), (l ++ [((f % (10 : Int)) % 256)]))))
  else (
    some (.inr l))
noncomputable def decimal_decimal_p0 (f : Int) (l : List Int) : Option ((List Int)) :=
  whileO (fun x : (Int × (List Int)) => decimal_decimal_p0_step x.1 x.2) (f, l)
noncomputable def decimal_decimal_p1_step (x23_ : Int) (x24_ : Int) (l : List Int) : Option ((Int × (List Int)) ⊕ ((List Int))) :=
  bif decide (x24_ < x23_) then (
    (decimal_times_s l (2 : Int)).bind fun r59 =>
    gd (InI64 (x24_ + (1 : Int))) <|
    some (.inl ((x24_ + (1 : Int)), r59)))
  else (
    some (.inr l))
noncomputable def decimal_decimal_p1 (x23_ : Int) (x24_ : Int) (l : List Int) : Option ((List Int)) :=
  whileO (fun x : (Int × (List Int)) => decimal_decimal_p1_step x23_ x.1 x.2) (x24_, l)
noncomputable def decimal_decimal_p2_step (x29_ : Int) (x30_ : Int) (l : List Int) : Option ((Int × (List Int)) ⊕ ((List Int))) :=
  bif decide (x30_ < x29_) then (
    (decimal_times_s l (5 : Int)).bind fun r61 =>
    gd (InI64 (x30_ + (1 : Int))) <|
    some (.inl ((x30_ + (1 : Int)), r61)))
  else (
    some (.inr l))
noncomputable def decimal_decimal_p2 (x29_ : Int) (x30_ : Int) (l : List Int) : Option ((List Int)) :=
  whileO (fun x : (Int × (List Int)) => decimal_decimal_p2_step x29_ x.1 x.2) (x30_, l)
noncomputable def decimal_decimal_p3_step (behind : Int) (l : List Int) : Option (((List Int)) ⊕ ((List Int))) :=
  bif decide ((l.length : Int) ≤ behind) then (
    gd (l.length + ([(0 : Int)] : List Int).length ≤ 9223372036854775807 ∧ (l.length + ([(0 : Int)] : List Int).length) * 1 ≤ 140737488355328) <|
    some (.inl (l ++ [(0 : Int)])))
  else (
    some (.inr l))
noncomputable def decimal_decimal_p3 (behind : Int) (l : List Int) : Option ((List Int)) :=
  whileO (fun x : ((List Int)) => decimal_decimal_p3_step behind x) l
noncomputable def decimal_decimal_p4_step (behind : Int) (i : Int) (l : List Int) (b_addr : Bool) (b_buf : List Int) : Option ((Int × Bool × (List Int)) ⊕ (Bool × (List Int))) :=
  bif decide ((0 : Int) ≤ i) then (
    gd (0 ≤ i ∧ i < l.length) <|
    gd ((Int.toNat i) < l.length) <|
    (strings_Builder_WriteByte_s (⟨b_addr, b_buf⟩ : strings_Builder) (((48 : Int) + (l.getD (Int.toNat i) (ET.dft .u8))) % 256)).bind fun r64 =>
    bif ((decide (i = behind)) && (decide ((0 : Int) < i))) then (
      (strings_Builder_WriteByte_s r64.1 (46 : Int)).bind fun r65 =>
      gd (InI64 (i - (1 : Int))) <|
      some (.inl ((i - (1 : Int)), r65.1.addr, r65.1.buf)))
    else (
      gd (InI64 (i - (1 : Int))) <|
      some (.inl ((i - (1 : Int)), r64.1.addr, r64.1.buf))))
  else (
    some (.inr (b_addr, b_buf)))
noncomputable def decimal_decimal_p4 (behind : Int) (i : Int) (l : List Int) (b_addr : Bool) (b_buf : List Int) : Option (Bool × (List Int)) :=
  whileO (fun x : (Int × Bool × (List Int)) => decimal_decimal_p4_step behind x.1 l x.2.1 x.2.2) (i, b_addr, b_buf)
noncomputable def decimal_decimal_s (f : Int) (x_ : Int) : Option ByteArray :=
  (decimal_decimal_p0 f []).bind fun o58 =>
  gd (InI64 (0 - x_)) <|
  (decimal_decimal_p1 (if x_ > (0 : Int) then x_ else (0 : Int)) (0 : Int) o58).bind fun o60 =>
  (decimal_decimal_p2 (if (0 - x_) > (0 : Int) then (0 - x_) else (0 : Int)) (0 : Int) o60).bind fun o62 =>
  (decimal_decimal_p3 (if (0 - x_) > (0 : Int) then (0 - x_) else (0 : Int)) o62).bind fun o63 =>
  gd (InI64 ((o63.length : Int) - (1 : Int))) <|
  (decimal_decimal_p4 (if (0 - x_) > (0 : Int) then (0 - x_) else (0 : Int)) ((o63.length : Int) - (1 : Int)) o63 false []).bind fun o66 =>
  bif decide ((if (0 - x_) > (0 : Int) then (0 - x_) else (0 : Int)) = (0 : Int)) then (
    (strings_Builder_String_s (⟨o66.1, o66.2⟩ : strings_Builder)).bind fun r67 =>
    some r67.2)
  else (
    (strings_Builder_String_s (⟨o66.1, o66.2⟩ : strings_Builder)).bind fun r68 =>
    (strings_TrimRight_s r68.2 (⟨#[48]⟩ : ByteArray)).bind fun r69 =>
    (strings_TrimRight_s r69 (⟨#[46]⟩ : ByteArray)).bind fun r70 =>
    some r70)
noncomputable def decimal_decimal_G : Nat → Option CQ := tblQ [(46, decimal_times_w), (47, strings_Builder_WriteByte_w), (48, strings_Builder_String_w), (49, strings_TrimRight_w)]
theorem decimal_decimal_Gok : ∀ f C, decimal_decimal_G f = some C → ValidQ Tryd.prog f C := tblQ_valid ⟨decimal_times_ok, strings_Builder_WriteByte_ok, strings_Builder_String_ok, strings_TrimRight_ok, trivial⟩
def decimal_decimal_d0 := (dQS (dCons (dSl 0 (dVC (dCO (dI .u64)))) (dCons (dSl 1 (dVC (dCO (dI .i64)))) (dCons (dSl 5 (dVC (dCO (dO 0)))) dNil))) (dCons (dRow .u8 5) dNil))
noncomputable def decimal_decimal_l0 : SubQ := fun S R kn kx kr => (Dec.d decimal_decimal_d0 S).bind fun x => (decimal_decimal_p0 x.1.1 x.2.1).bind fun r => kx 0 ⟨[(1, [], .c (.o (.val (.int .i64 x.1.2.1)))), (5, [], .c (.o (.own 0)))], [], [.row .u8 5 r]⟩
def decimal_decimal_d1 := (dQS (dCons (dSl 5 (dVC (dCO (dO 0)))) (dCons (dSl 6 (dVC (dCO (dI .i64)))) (dCons (dSl 23 (dVC (dCO (dI .i64)))) (dCons (dSl 24 (dVC (dCO (dI .i64)))) dNil)))) (dCons (dRow .u8 5) dNil))
noncomputable def decimal_decimal_l1 : SubQ := fun S R kn kx kr => (Dec.d decimal_decimal_d1 S).bind fun x => (decimal_decimal_p1 x.1.2.2.1 x.1.2.2.2.1 x.2.1).bind fun r => kx 2 ⟨[(5, [], .c (.o (.own 0))), (6, [], .c (.o (.val (.int .i64 x.1.2.1))))], [], [.row .u8 5 r]⟩
def decimal_decimal_d2 := (dQS (dCons (dSl 5 (dVC (dCO (dO 0)))) (dCons (dSl 6 (dVC (dCO (dI .i64)))) (dCons (dSl 29 (dVC (dCO (dI .i64)))) (dCons (dSl 30 (dVC (dCO (dI .i64)))) dNil)))) (dCons (dRow .u8 5) dNil))
noncomputable def decimal_decimal_l2 : SubQ := fun S R kn kx kr => (Dec.d decimal_decimal_d2 S).bind fun x => (decimal_decimal_p2 x.1.2.2.1 x.1.2.2.2.1 x.2.1).bind fun r => kx 4 ⟨[(5, [], .c (.o (.own 0))), (6, [], .c (.o (.val (.int .i64 x.1.2.1))))], [], [.row .u8 5 r]⟩
def decimal_decimal_d3 := (dQS (dCons (dSl 5 (dVC (dCO (dO 0)))) (dCons (dSl 6 (dVC (dCO (dI .i64)))) dNil)) (dCons (dRow .u8 5) dNil))
noncomputable def decimal_decimal_l3 : SubQ := fun S R kn kx kr => (Dec.d decimal_decimal_d3 S).bind fun x => (decimal_decimal_p3 x.1.2.1 x.2.1).bind fun r => kx 6 ⟨[(5, [], .c (.o (.own 0))), (6, [], .c (.o (.val (.int .i64 x.1.2.1))))], [], [.row .u8 5 r]⟩
def decimal_decimal_d4 := (dQS (dCons (dSl 5 (dVC (dCO (dO 0)))) (dCons (dSl 6 (dVC (dCO (dI .i64)))) (dCons (dSl 7 (dVC (dCO (dH 1 0)))) (dCons (dSl 8 (dVC (dCO (dI .i64)))) dNil)))) (dCons (dRow .u8 5) (dCons (dCells 72 (dCons (dP 1 0) (dCons (dO 2) dNil))) (dCons (dRow .u8 5) dNil))))
noncomputable def decimal_decimal_l4 : SubQ := fun S R kn kx kr => (Dec.d decimal_decimal_d4 S).bind fun x => (decimal_decimal_p4 x.1.2.1 x.1.2.2.2.1 x.2.1 x.2.2.1.1 x.2.2.2.1).bind fun r => kx 8 ⟨[(6, [], .c (.o (.val (.int .i64 x.1.2.1)))), (7, [], .c (.o (.hd 0 0)))], [], [.cells 72 [.opt r.1 0 0, .own 1], .row .u8 5 r.2]⟩
noncomputable def decimal_decimal_L : Nat → SubQ := tblL [(0, decimal_decimal_l0), (1, decimal_decimal_l1), (2, decimal_decimal_l2), (3, decimal_decimal_l3), (4, decimal_decimal_l4)]
theorem decimal_decimal_p0_eq (f : Int) (x_ : Int) (l : List Int) (R : Type) (kn : QS → Option R) (kx : Nat → QS → Option R) (kr : QS → Option R) :
    interpQ decimal_decimal_L decimal_decimal_G 0 31 69 decimal_decimal_b0 ⟨[(0, [], .c (.o (.val (.int .u64 f)))), (1, [], .c (.o (.val (.int .i64 x_)))), (5, [], .c (.o (.own 0)))], [], [.row .u8 5 l]⟩ kn kx kr = (decimal_decimal_p0 f l).bind fun r => kx 0 ⟨[(1, [], .c (.o (.val (.int .i64 x_)))), (5, [], .c (.o (.own 0)))], [], [.row .u8 5 r]⟩ := by
  refine loop_piece (step := fun x => decimal_decimal_p0_step x.1 x.2) (enc := fun x => ⟨[(0, [], .c (.o (.val (.int .u64 x.1)))), (1, [], .c (.o (.val (.int .i64 x_)))), (5, [], .c (.o (.own 0)))], [], [.row .u8 5 x.2]⟩) (ko := fun r => kx 0 ⟨[(1, [], .c (.o (.val (.int .i64 x_)))), (5, [], .c (.o (.own 0)))], [], [.row .u8 5 r]⟩) ?_ ?_ (f, l)
  · intro x; kernel_rfl
  · intro x ki; simp only [decimal_decimal_p0_step, -eq_self, bind_cond, bind_gd, Option.bind_assoc, Option.bind_some, Sum.elim_inl, Sum.elim_inr, bind_elim]; kernel_rfl
theorem decimal_decimal_sub0 : SubOK decimal_decimal_L decimal_decimal_G 0 31 69 0 decimal_decimal_b0 := sub_ok' decimal_decimal_d0 (fun x R kn kx kr => (decimal_decimal_p0 x.1.1 x.2.1).bind fun r => kx 0 ⟨[(1, [], .c (.o (.val (.int .i64 x.1.2.1)))), (5, [], .c (.o (.own 0)))], [], [.row .u8 5 r]⟩) (by kernel_rfl) fun x R kn kx kr => decimal_decimal_p0_eq x.1.1 x.1.2.1 x.2.1 R kn kx kr
theorem decimal_decimal_p1_eq (behind : Int) (x23_ : Int) (x24_ : Int) (l : List Int) (R : Type) (kn : QS → Option R) (kx : Nat → QS → Option R) (kr : QS → Option R) :
    interpQ decimal_decimal_L decimal_decimal_G 0 31 69 decimal_decimal_b1 ⟨[(5, [], .c (.o (.own 0))), (6, [], .c (.o (.val (.int .i64 behind)))), (23, [], .c (.o (.val (.int .i64 x23_)))), (24, [], .c (.o (.val (.int .i64 x24_))))], [], [.row .u8 5 l]⟩ kn kx kr = (decimal_decimal_p1 x23_ x24_ l).bind fun r => kx 2 ⟨[(5, [], .c (.o (.own 0))), (6, [], .c (.o (.val (.int .i64 behind))))], [], [.row .u8 5 r]⟩ := by
  refine loop_piece (step := fun x => decimal_decimal_p1_step x23_ x.1 x.2) (enc := fun x => ⟨[(5, [], .c (.o (.own 0))), (6, [], .c (.o (.val (.int .i64 behind)))), (23, [], .c (.o (.val (.int .i64 x23_)))), (24, [], .c (.o (.val (.int .i64 x.1))))], [], [.row .u8 5 x.2]⟩) (ko := fun r => kx 2 ⟨[(5, [], .c (.o (.own 0))), (6, [], .c (.o (.val (.int .i64 behind))))], [], [.row .u8 5 r]⟩) ?_ ?_ (x24_, l)
  · intro x; kernel_rfl
  · intro x ki; simp only [decimal_decimal_p1_step, -eq_self, bind_cond, bind_gd, Option.bind_assoc, Option.bind_some, Sum.elim_inl, Sum.elim_inr, bind_elim]; kernel_rfl
theorem decimal_decimal_sub1 : SubOK decimal_decimal_L decimal_decimal_G 0 31 69 1 decimal_decimal_b1 := sub_ok' decimal_decimal_d1 (fun x R kn kx kr => (decimal_decimal_p1 x.1.2.2.1 x.1.2.2.2.1 x.2.1).bind fun r => kx 2 ⟨[(5, [], .c (.o (.own 0))), (6, [], .c (.o (.val (.int .i64 x.1.2.1))))], [], [.row .u8 5 r]⟩) (by kernel_rfl) fun x R kn kx kr => decimal_decimal_p1_eq x.1.2.1 x.1.2.2.1 x.1.2.2.2.1 x.2.1 R kn kx kr
theorem decimal_decimal_p2_eq (behind : Int) (x29_ : Int) (x30_ : Int) (l : List Int) (R : Type) (kn : QS → Option R) (kx : Nat → QS → Option R) (kr : QS → Option R) :
    interpQ decimal_decimal_L decimal_decimal_G 0 31 69 decimal_decimal_b2 ⟨[(5, [], .c (.o (.own 0))), (6, [], .c (.o (.val (.int .i64 behind)))), (29, [], .c (.o (.val (.int .i64 x29_)))), (30, [], .c (.o (.val (.int .i64 x30_))))], [], [.row .u8 5 l]⟩ kn kx kr = (decimal_decimal_p2 x29_ x30_ l).bind fun r => kx 4 ⟨[(5, [], .c (.o (.own 0))), (6, [], .c (.o (.val (.int .i64 behind))))], [], [.row .u8 5 r]⟩ := by
  refine loop_piece (step := fun x => decimal_decimal_p2_step x29_ x.1 x.2) (enc := fun x => ⟨[(5, [], .c (.o (.own 0))), (6, [], .c (.o (.val (.int .i64 behind)))), (29, [], .c (.o (.val (.int .i64 x29_)))), (30, [], .c (.o (.val (.int .i64 x.1))))], [], [.row .u8 5 x.2]⟩) (ko := fun r => kx 4 ⟨[(5, [], .c (.o (.own 0))), (6, [], .c (.o (.val (.int .i64 behind))))], [], [.row .u8 5 r]⟩) ?_ ?_ (x30_, l)
  · intro x; kernel_rfl
  · intro x ki; simp only [decimal_decimal_p2_step, -eq_self, bind_cond, bind_gd, Option.bind_assoc, Option.bind_some, Sum.elim_inl, Sum.elim_inr, bind_elim]; kernel_rfl
theorem decimal_decimal_sub2 : SubOK decimal_decimal_L decimal_decimal_G 0 31 69 2 decimal_decimal_b2 := sub_ok' decimal_decimal_d2 (fun x R kn kx kr => (decimal_decimal_p2 x.1.2.2.1 x.1.2.2.2.1 x.2.1).bind fun r => kx 4 ⟨[(5, [], .c (.o (.own 0))), (6, [], .c (.o (.val (.int .i64 x.1.2.1))))], [], [.row .u8 5 r]⟩) (by kernel_rfl) fun x R kn kx kr => decimal_decimal_p2_eq x.1.2.1 x.1.2.2.1 x.1.2.2.2.1 x.2.1 R kn kx kr
theorem decimal_decimal_p3_eq (behind : Int) (l : List Int) (R : Type) (kn : QS → Option R) (kx : Nat → QS → Option R) (kr : QS → Option R) :
    interpQ decimal_decimal_L decimal_decimal_G 0 31 69 decimal_decimal_b3 ⟨[(5, [], .c (.o (.own 0))), (6, [], .c (.o (.val (.int .i64 behind))))], [], [.row .u8 5 l]⟩ kn kx kr = (decimal_decimal_p3 behind l).bind fun r => kx 6 ⟨[(5, [], .c (.o (.own 0))), (6, [], .c (.o (.val (.int .i64 behind))))], [], [.row .u8 5 r]⟩ := by
  refine loop_piece (step := fun x => decimal_decimal_p3_step behind x) (enc := fun x => ⟨[(5, [], .c (.o (.own 0))), (6, [], .c (.o (.val (.int .i64 behind))))], [], [.row .u8 5 x]⟩) (ko := fun r => kx 6 ⟨[(5, [], .c (.o (.own 0))), (6, [], .c (.o (.val (.int .i64 behind))))], [], [.row .u8 5 r]⟩) ?_ ?_ l
  · intro x; kernel_rfl
  · intro x ki; simp only [decimal_decimal_p3_step, -eq_self, bind_cond, bind_gd, Option.bind_assoc, Option.bind_some, Sum.elim_inl, Sum.elim_inr, bind_elim]; kernel_rfl
theorem decimal_decimal_sub3 : SubOK decimal_decimal_L decimal_decimal_G 0 31 69 3 decimal_decimal_b3 := sub_ok' decimal_decimal_d3 (fun x R kn kx kr => (decimal_decimal_p3 x.1.2.1 x.2.1).bind fun r => kx 6 ⟨[(5, [], .c (.o (.own 0))), (6, [], .c (.o (.val (.int .i64 x.1.2.1))))], [], [.row .u8 5 r]⟩) (by kernel_rfl) fun x R kn kx kr => decimal_decimal_p3_eq x.1.2.1 x.2.1 R kn kx kr
theorem decimal_decimal_p4_eq (behind : Int) (i : Int) (l : List Int) (b_addr : Bool) (b_buf : List Int) (R : Type) (kn : QS → Option R) (kx : Nat → QS → Option R) (kr : QS → Option R) :
    interpQ decimal_decimal_L decimal_decimal_G 0 31 69 decimal_decimal_b4 ⟨[(5, [], .c (.o (.own 0))), (6, [], .c (.o (.val (.int .i64 behind)))), (7, [], .c (.o (.hd 1 0))), (8, [], .c (.o (.val (.int .i64 i))))], [], [.row .u8 5 l, .cells 72 [.opt b_addr 1 0, .own 2], .row .u8 5 b_buf]⟩ kn kx kr = (decimal_decimal_p4 behind i l b_addr b_buf).bind fun r => kx 8 ⟨[(6, [], .c (.o (.val (.int .i64 behind)))), (7, [], .c (.o (.hd 0 0)))], [], [.cells 72 [.opt r.1 0 0, .own 1], .row .u8 5 r.2]⟩ := by
  refine loop_piece (step := fun x => decimal_decimal_p4_step behind x.1 l x.2.1 x.2.2) (enc := fun x => ⟨[(5, [], .c (.o (.own 0))), (6, [], .c (.o (.val (.int .i64 behind)))), (7, [], .c (.o (.hd 1 0))), (8, [], .c (.o (.val (.int .i64 x.1))))], [], [.row .u8 5 l, .cells 72 [.opt x.2.1 1 0, .own 2], .row .u8 5 x.2.2]⟩) (ko := fun r => kx 8 ⟨[(6, [], .c (.o (.val (.int .i64 behind)))), (7, [], .c (.o (.hd 0 0)))], [], [.cells 72 [.opt r.1 0 0, .own 1], .row .u8 5 r.2]⟩) ?_ ?_ (i, b_addr, b_buf)
  · intro x; kernel_rfl
  · intro x ki; simp only [decimal_decimal_p4_step, -eq_self, bind_cond, bind_gd, Option.bind_assoc, Option.bind_some, Sum.elim_inl, Sum.elim_inr, bind_elim]; kernel_rfl
theorem decimal_decimal_sub4 : SubOK decimal_decimal_L decimal_decimal_G 0 31 69 4 decimal_decimal_b4 := sub_ok' decimal_decimal_d4 (fun x R kn kx kr => (decimal_decimal_p4 x.1.2.1 x.1.2.2.2.1 x.2.1 x.2.2.1.1 x.2.2.2.1).bind fun r => kx 8 ⟨[(6, [], .c (.o (.val (.int .i64 x.1.2.1)))), (7, [], .c (.o (.hd 0 0)))], [], [.cells 72 [.opt r.1 0 0, .own 1], .row .u8 5 r.2]⟩) (by kernel_rfl) fun x R kn kx kr => decimal_decimal_p4_eq x.1.2.1 x.1.2.2.2.1 x.2.1 x.2.2.1.1 x.2.2.2.1 R kn kx kr
theorem decimal_decimal_subs : subsOK decimal_decimal_L decimal_decimal_G 0 31 69 decimal_decimal_q := subs_of (show AllSub decimal_decimal_L decimal_decimal_G 0 31 69 [(0, decimal_decimal_b0), (1, decimal_decimal_b1), (2, decimal_decimal_b2), (3, decimal_decimal_b3), (4, decimal_decimal_b4)] from ⟨decimal_decimal_sub0, decimal_decimal_sub1, decimal_decimal_sub2, decimal_decimal_sub3, decimal_decimal_sub4, trivial⟩)
theorem decimal_decimal_eq (f : Int) (x_ : Int) (R : Type) (k : SV → List SB → Option R) :
    fnQ decimal_decimal_L decimal_decimal_G 31 69 decimal_decimal_q [.tmp 4] [.c (.o (.val (.int .u64 f))), .c (.o (.val (.int .i64 x_)))] [] k = (decimal_decimal_s f x_).bind fun r => k (.c (.o (.val (.string r)))) [] := by
  simp only [decimal_decimal_s, -eq_self, bind_cond, bind_gd, Option.bind_assoc, Option.bind_some, Sum.elim_inl, Sum.elim_inr, bind_elim]
  kernel_rfl
def decimal_decimal_da := (dCons (dVC (dCO (dI .u64))) (dCons (dVC (dCO (dI .i64))) dNil))
def decimal_decimal_db := (dNil : Dec Unit (List SB))
noncomputable def decimal_decimal_c : CS := fun args hp R k => (Dec.d decimal_decimal_da args).bind fun x => (Dec.d decimal_decimal_db hp).bind fun y => (decimal_decimal_s x.1 x.2.1).bind fun r => k (.c (.o (.val (.string r)))) []
theorem decimal_decimal_val : ValidS Tryd.prog 33 decimal_decimal_c :=
  val_ok decimal_decimal_chk 31 decimal_decimal_Gok decimal_decimal_da decimal_decimal_db 0 (fun x y R k => (decimal_decimal_s x.1 x.2.1).bind fun r => k (.c (.o (.val (.string r)))) []) (by kernel_rfl)
    (fun x y R k => by simp only [Option.bind_assoc, Option.bind_some]) (fun x => Nat.le_of_ble_eq_true rfl) (fun y => rfl) decimal_decimal_subs fun x y => decimal_decimal_eq x.1 x.2.1 _ _
noncomputable def decimal_decimal_w : CQ := liftV [] decimal_decimal_c
theorem decimal_decimal_ok : ValidQ Tryd.prog 33 decimal_decimal_w := liftV_valid decimal_decimal_val

/-! ### signet/decimal.Exact -/
def decimal_Exact_q : IQ :=
  (.seq
  (.reg 2 none [
    ⟨(some 2), .mv (.v (.string ⟨#[]⟩)), none⟩])
  (.seq
  (.seq
  (.reg 8 none [
    ⟨(some 6), .mv (.t 0), none⟩,
    ⟨(some 7), .bin false .and (.t 6) (.v (.int .u32 2139095040)), none⟩,
    ⟨(some 8), .bin false .eql (.t 7) (.v (.int .u32 2139095040)), none⟩])
  (.cond (.t 8)
    (.seq
    (.reg 2 none [
      ⟨(some 2), .mv (.v (.string ⟨#[]⟩)), none⟩])
    (.canon [] [2] .ret))
    .skip))
  (.seq
  (.reg 4 none [
    ⟨(some 10), .mv (.t 0), none⟩,
    ⟨(some 11), .call 32 [(.t 10)], none⟩,
    ⟨(some 9), .mv (.t 11), none⟩,
    ⟨(some 12), .extract (.t 9) 0, none⟩,
    ⟨(some 13), .extract (.t 9) 1, none⟩,
    ⟨(some 3), .mv (.t 12), none⟩,
    ⟨(some 4), .mv (.t 13), none⟩])
  (.seq
  (.reg 5 none [
    ⟨(some 14), .mv (.t 3), none⟩,
    ⟨(some 15), .mv (.t 4), none⟩,
    ⟨(some 16), .call 33 [(.t 14), (.t 15)], none⟩,
    ⟨(some 5), .mv (.t 16), none⟩])
  (.seq
  (.seq
  (.reg 19 none [
    ⟨(some 17), .mv (.t 0), none⟩,
    ⟨(some 18), .bin false .and (.t 17) (.v (.int .u32 2147483648)), none⟩,
    ⟨(some 19), .bin false .neq (.t 18) (.v (.int .u32 0)), none⟩])
  (.cond (.t 19)
    (.reg 5 none [
      ⟨(some 20), .mv (.t 5), none⟩,
      ⟨(some 21), .bin false .add (.v (.string ⟨#[45]⟩)) (.t 20), none⟩,
      ⟨(some 5), .mv (.t 21), none⟩])
    .skip))
  (.seq
  (.reg 2 none [
    ⟨(some 22), .mv (.t 5), none⟩,
    ⟨(some 2), .mv (.t 22), none⟩])
  (.canon [] [2] .ret)))))))
theorem decimal_Exact_chk : chk Tryd.prog 13 [] = some (decimal_Exact_q.erase, [.tmp 2], 23) := by kernel_rfl
noncomputable def decimal_Exact_s (bits : Int) : Option ByteArray :=
  bif decide ((bitAnd .u32 bits (2139095040 : Int)) = (2139095040 : Int)) then (
    some (⟨#[]⟩ : ByteArray))
  else (
    (decimal_parts_s bits).bind fun r1 =>
    (decimal_decimal_s r1.1 r1.2).bind fun r2 =>
    bif (!decide ((bitAnd .u32 bits (2147483648 : Int)) = (0 : Int))) then (
      gd ((⟨#[45]⟩ : ByteArray).size + r2.size ≤ 9223372036854775807) <|
      some ((⟨#[45]⟩ : ByteArray) ++ r2))
    else (
      some r2))
noncomputable def decimal_Exact_G : Nat → Option CQ := tblQ [(32, decimal_parts_w), (33, decimal_decimal_w)]
theorem decimal_Exact_Gok : ∀ f C, decimal_Exact_G f = some C → ValidQ Tryd.prog f C := tblQ_valid ⟨decimal_parts_ok, decimal_decimal_ok, trivial⟩
noncomputable def decimal_Exact_L : Nat → SubQ := tblL []
theorem decimal_Exact_subs : subsOK decimal_Exact_L decimal_Exact_G 0 6 23 decimal_Exact_q := subs_of (show AllSub decimal_Exact_L decimal_Exact_G 0 6 23 [] from trivial)
theorem decimal_Exact_eq (bits : Int) (R : Type) (k : SV → List SB → Option R) :
    fnQ decimal_Exact_L decimal_Exact_G 6 23 decimal_Exact_q [.tmp 2] [.c (.o (.val (.int .u32 bits)))] [] k = (decimal_Exact_s bits).bind fun r => k (.c (.o (.val (.string r)))) [] := by
  simp only [decimal_Exact_s, -eq_self, bind_cond, bind_gd, Option.bind_assoc, Option.bind_some, Sum.elim_inl, Sum.elim_inr, bind_elim]
  kernel_rfl
def decimal_Exact_da := (dCons (dVC (dCO (dI .u32))) dNil)
def decimal_Exact_db := (dNil : Dec Unit (List SB))
noncomputable def decimal_Exact_c : CS := fun args hp R k => (Dec.d decimal_Exact_da args).bind fun x => (Dec.d decimal_Exact_db hp).bind fun y => (decimal_Exact_s x.1).bind fun r => k (.c (.o (.val (.string r)))) []
theorem decimal_Exact_val : ValidS Tryd.prog 13 decimal_Exact_c :=
  val_ok decimal_Exact_chk 6 decimal_Exact_Gok decimal_Exact_da decimal_Exact_db 0 (fun x y R k => (decimal_Exact_s x.1).bind fun r => k (.c (.o (.val (.string r)))) []) (by kernel_rfl)
    (fun x y R k => by simp only [Option.bind_assoc, Option.bind_some]) (fun x => Nat.le_of_ble_eq_true rfl) (fun y => rfl) decimal_Exact_subs fun x y => decimal_Exact_eq x.1 _ _
noncomputable def decimal_Exact_w : CQ := liftV [] decimal_Exact_c
theorem decimal_Exact_ok : ValidQ Tryd.prog 13 decimal_Exact_w := liftV_valid decimal_Exact_val

/-! ### signet/decimal.middle -/
def decimal_middle_q : IQ :=
  (.seq
  (.reg 2 none [
    ⟨(some 2), .alloc 58 [.bool false, .string ⟨#[]⟩, .string ⟨#[]⟩, .int .i64 0, .bool false, .bool false, .string ⟨#[]⟩], none⟩])
  (.seq
  (.reg 4 none [
    ⟨(some 8), .mv (.t 0), none⟩,
    ⟨(some 9), .call 32 [(.t 8)], none⟩,
    ⟨(some 7), .mv (.t 9), none⟩,
    ⟨(some 10), .extract (.t 7) 0, none⟩,
    ⟨(some 11), .extract (.t 7) 1, none⟩,
    ⟨(some 3), .mv (.t 10), none⟩,
    ⟨(some 4), .mv (.t 11), none⟩])
  (.seq
  (.reg 6 none [
    ⟨(some 13), .mv (.t 3), none⟩,
    ⟨(some 14), .bin false .mul (.v (.int .u64 2)) (.t 13), none⟩,
    ⟨(some 15), .bin false .add (.t 14) (.v (.int .u64 1)), none⟩,
    ⟨(some 16), .mv (.t 4), none⟩,
    ⟨(some 17), .bin false .sub (.t 16) (.v (.int .i64 1)), none⟩,
    ⟨(some 18), .call 33 [(.t 15), (.t 17)], none⟩,
    ⟨(some 19), .call 36 [(.t 18), (.v (.int .i64 1))], none⟩,
    ⟨(some 12), .mv (.t 19), none⟩,
    ⟨(some 20), .extract (.t 12) 0, none⟩,
    ⟨(some 21), .extract (.t 12) 1, none⟩,
    ⟨(some 5), .alloc 58 [.bool false, .string ⟨#[]⟩, .string ⟨#[]⟩, .int .i64 0, .bool false, .bool false, .string ⟨#[]⟩], none⟩,
    ⟨none, .store 7 (.t 5) (.t 20), none⟩,
    ⟨(some 6), .mv (.t 21), none⟩])
  (.seq
  (.reg 0 none [
    ⟨(some 22), .load (some 7) (.t 5), none⟩,
    ⟨none, .store 7 (.t 2) (.t 22), none⟩])
  (.canon [] [2] .ret)))))
theorem decimal_middle_chk : chk Tryd.prog 42 [] = some (decimal_middle_q.erase, [.cell 2 (some 7)], 23) := by kernel_rfl
noncomputable def decimal_middle_s (bits : Int) : Option decimal_number :=
  (decimal_parts_s bits).bind fun r1 =>
  gd (InI64 (r1.2 - (1 : Int))) <|
  (decimal_decimal_s (((((2 : Int) * r1.1) % 18446744073709551616) + (1 : Int)) % 18446744073709551616) (r1.2 - (1 : Int))).bind fun r2 =>
  (decimal_read_s r2 (1 : Int)).bind fun r3 =>
  some r3.1
noncomputable def decimal_middle_G : Nat → Option CQ := tblQ [(32, decimal_parts_w), (33, decimal_decimal_w), (36, decimal_read_w)]
theorem decimal_middle_Gok : ∀ f C, decimal_middle_G f = some C → ValidQ Tryd.prog f C := tblQ_valid ⟨decimal_parts_ok, decimal_decimal_ok, decimal_read_ok, trivial⟩
noncomputable def decimal_middle_L : Nat → SubQ := tblL []
theorem decimal_middle_subs : subsOK decimal_middle_L decimal_middle_G 0 7 23 decimal_middle_q := subs_of (show AllSub decimal_middle_L decimal_middle_G 0 7 23 [] from trivial)
theorem decimal_middle_eq (bits : Int) (R : Type) (k : SV → List SB → Option R) :
    fnQ decimal_middle_L decimal_middle_G 7 23 decimal_middle_q [.cell 2 (some 7)] [.c (.o (.val (.int .u32 bits)))] [] k = (decimal_middle_s bits).bind fun r => k (.c (.agg [.val (.bool r.minus), .val (.string r.whole), .val (.string r.digits), .val (.int .i64 r.point), .val (.bool r.plain), .val (.bool r.down), .val (.string r.exp_)])) [] := by
  simp only [decimal_middle_s, -eq_self, bind_cond, bind_gd, Option.bind_assoc, Option.bind_some, Sum.elim_inl, Sum.elim_inr, bind_elim]
  kernel_rfl
def decimal_middle_da := (dCons (dVC (dCO (dI .u32))) dNil)
def decimal_middle_db := (dNil : Dec Unit (List SB))
noncomputable def decimal_middle_c : CS := fun args hp R k => (Dec.d decimal_middle_da args).bind fun x => (Dec.d decimal_middle_db hp).bind fun y => (decimal_middle_s x.1).bind fun r => k (.c (.agg [.val (.bool r.minus), .val (.string r.whole), .val (.string r.digits), .val (.int .i64 r.point), .val (.bool r.plain), .val (.bool r.down), .val (.string r.exp_)])) []
theorem decimal_middle_val : ValidS Tryd.prog 42 decimal_middle_c :=
  val_ok decimal_middle_chk 7 decimal_middle_Gok decimal_middle_da decimal_middle_db 0 (fun x y R k => (decimal_middle_s x.1).bind fun r => k (.c (.agg [.val (.bool r.minus), .val (.string r.whole), .val (.string r.digits), .val (.int .i64 r.point), .val (.bool r.plain), .val (.bool r.down), .val (.string r.exp_)])) []) (by kernel_rfl)
    (fun x y R k => by simp only [Option.bind_assoc, Option.bind_some]) (fun x => Nat.le_of_ble_eq_true rfl) (fun y => rfl) decimal_middle_subs fun x y => decimal_middle_eq x.1 _ _
noncomputable def decimal_middle_w : CQ := liftV [] decimal_middle_c
theorem decimal_middle_ok : ValidQ Tryd.prog 42 decimal_middle_w := liftV_valid decimal_middle_val

/-! ### signet/signetref2.Parts -/
/-! ### signet/signetref2.Twice -/
/-! ### signet/signetref2.Exact -/
noncomputable def signetref2_Exact_p3 (s : ByteArray) (d : Int) (n_Digits : List Int) : Option ByteArray :=
  bif decide ((0 : Int) < (n_Digits.length : Int)) then (
    gd (InI64 (d + (1 : Int))) <|
    gd (0 ≤ d ∧ d ≤ (d + (1 : Int)) ∧ (d + (1 : Int)) ≤ (⟨#[48, 49, 50, 51, 52, 53, 54, 55, 56, 57]⟩ : ByteArray).size) <|
    gd (s.size + ((⟨#[48, 49, 50, 51, 52, 53, 54, 55, 56, 57]⟩ : ByteArray).extract (Int.toNat d) (Int.toNat (d + (1 : Int)))).size ≤ 9223372036854775807) <|
    some (s ++ ((⟨#[48, 49, 50, 51, 52, 53, 54, 55, 56, 57]⟩ : ByteArray).extract (Int.toNat d) (Int.toNat (d + (1 : Int))))))
  else (
    some s)
noncomputable def signetref2_Exact_p2_step (s : ByteArray) (i : Int) (n_Off : Int) (n_Digits : List Int) : Option ((ByteArray × Int) ⊕ ByteArray) :=
  bif decide (i < n_Off) then (
    bif decide (i < (n_Digits.length : Int)) then (
      gd (0 ≤ i ∧ i < n_Digits.length) <|
      gd ((Int.toNat i) < n_Digits.length) <|
      (signetref2_Exact_p3 s (n_Digits.getD (Int.toNat i) (ET.dft .i64)) n_Digits).bind fun o31 =>
      gd (InI64 (i + (1 : Int))) <|
      some (.inl (o31, (i + (1 : Int)))))
    else (
      (signetref2_Exact_p3 s (0 : Int) n_Digits).bind fun o32 =>
      gd (InI64 (i + (1 : Int))) <|
      some (.inl (o32, (i + (1 : Int))))))
  else (
    some (.inr s))
noncomputable def signetref2_Exact_p2 (s : ByteArray) (i : Int) (n_Off : Int) (n_Digits : List Int) : Option ByteArray :=
  whileO (fun x : (ByteArray × Int) => signetref2_Exact_p2_step x.1 x.2 n_Off n_Digits) (s, i)
noncomputable def signetref2_Exact_p4_step (s : ByteArray) (i : Int) : Option ((ByteArray × Int) ⊕ ByteArray) :=
  bif decide (i < (0 : Int)) then (
    gd (s.size + (⟨#[48]⟩ : ByteArray).size ≤ 9223372036854775807) <|
    gd (InI64 (i + (1 : Int))) <|
    some (.inl ((s ++ (⟨#[48]⟩ : ByteArray)), (i + (1 : Int)))))
  else (
    some (.inr s))
noncomputable def signetref2_Exact_p4 (s : ByteArray) (i : Int) : Option ByteArray :=
  whileO (fun x : (ByteArray × Int) => signetref2_Exact_p4_step x.1 x.2) (s, i)
noncomputable def signetref2_Exact_p5_step (s : ByteArray) (i : Int) (n_Off : Int) (n_Digits : List Int) : Option ((ByteArray × Int) ⊕ ByteArray) :=
  bif decide (i < (n_Digits.length : Int)) then (
    bif decide (n_Off ≤ i) then (
      gd (0 ≤ i ∧ i < n_Digits.length) <|
      gd ((Int.toNat i) < n_Digits.length) <|
      gd (0 ≤ i ∧ i < n_Digits.length) <|
      gd ((Int.toNat i) < n_Digits.length) <|
      gd (InI64 ((n_Digits.getD (Int.toNat i) (ET.dft .i64)) + (1 : Int))) <|
      gd (0 ≤ (n_Digits.getD (Int.toNat i) (ET.dft .i64)) ∧ (n_Digits.getD (Int.toNat i) (ET.dft .i64)) ≤ ((n_Digits.getD (Int.toNat i) (ET.dft .i64)) + (1 : Int)) ∧ ((n_Digits.getD (Int.toNat i) (ET.dft .i64)) + (1 : Int)) ≤ (⟨#[48, 49, 50, 51, 52, 53, 54, 55, 56, 57]⟩ : ByteArray).size) <|
      gd (s.size + ((⟨#[48, 49, 50, 51, 52, 53, 54, 55, 56, 57]⟩ : ByteArray).extract (Int.toNat (n_Digits.getD (Int.toNat i) (ET.dft .i64))) (Int.toNat ((n_Digits.getD (Int.toNat i) (ET.dft .i64)) + (1 : Int)))).size ≤ 9223372036854775807) <|
      gd (InI64 (i + (1 : Int))) <|
      some (.inl ((s ++ ((⟨#[48, 49, 50, 51, 52, 53, 54, 55, 56, 57]⟩ : ByteArray).extract (Int.toNat (n_Digits.getD (Int.toNat i) (ET.dft .i64))) (Int.toNat ((n_Digits.getD (Int.toNat i) (ET.dft .i64)) + (1 : Int))))), (i + (1 : Int)))))
    else (
      gd (InI64 (i + (1 : Int))) <|
      some (.inl (s, (i + (1 : Int))))))
  else (
    some (.inr s))
noncomputable def signetref2_Exact_p5 (s : ByteArray) (i : Int) (n_Off : Int) (n_Digits : List Int) : Option ByteArray :=
  whileO (fun x : (ByteArray × Int) => signetref2_Exact_p5_step x.1 x.2 n_Off n_Digits) (s, i)
noncomputable def signetref2_Exact_p1 (s : ByteArray) (n_Off : Int) (n_Digits : List Int) : Option ByteArray :=
  (signetref2_Exact_p2 s (0 : Int) n_Off n_Digits).bind fun o33 =>
  bif ((decide (n_Off < (n_Digits.length : Int))) && (decide ((0 : Int) < (n_Digits.length : Int)))) then (
    gd (o33.size + (⟨#[46]⟩ : ByteArray).size ≤ 9223372036854775807) <|
    (signetref2_Exact_p4 (o33 ++ (⟨#[46]⟩ : ByteArray)) n_Off).bind fun o34 =>
    (signetref2_Exact_p5 o34 (0 : Int) n_Off n_Digits).bind fun o35 =>
    some o35)
  else (
    some o33)
/-! ### signet/signetref2.Middle -/
/-! ### signet/signetlaw2.DecimalSays -/
end Go.Proofs.YtdibapfehdhfjaaDoor
