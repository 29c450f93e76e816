/-
  Functions as the engine reads them (printed by gen.py).
-/
import Derived.Test.YtdcoiccdbgcpaaaEngO
import Derived.Test.YtdcoiccdbgcpaaaProg
namespace Go.Proofs.Ytdcoiccdbgcpaaa
open Go.Eng
set_option linter.unusedVariables false
set_option linter.unusedSimpArgs false
set_option maxRecDepth 100000
structure signetref2_Num where
  minus : Bool
  digits : (List Int)
  off : Int
  down : Bool
  exp_ : (List Int)
  plain : Bool
  text : ByteArray

/-! ### signet/signetref2.digit -/
def signetref2_digit_q : IQ :=
  (.seq
  (.reg 4 none [
    ⟨(some 4), .mv (.v (.bool false)), none⟩])
  (.seq
  (.reg 4 none [
    ⟨(some 5), .mv (.t 1), none⟩,
    ⟨(some 6), .mv (.t 0), none⟩,
    ⟨(some 7), .lenS (.t 6), none⟩,
    ⟨(some 8), .bin false .lss (.t 5) (.t 7), none⟩,
    ⟨(some 9), .mv (.t 8), none⟩,
    ⟨(some 10), .mv (.t 0), some (9, true)⟩,
    ⟨(some 11), .mv (.t 1), some (9, true)⟩,
    ⟨(some 12), .index (.t 10) (.t 11), some (9, true)⟩,
    ⟨(some 13), .bin false .geq (.t 12) (.v (.int .u8 48)), some (9, true)⟩,
    ⟨(some 14), .pick (.t 9) (.t 13) (.v (.bool false)), none⟩,
    ⟨(some 15), .mv (.t 14), none⟩,
    ⟨(some 16), .mv (.t 0), some (15, true)⟩,
    ⟨(some 17), .mv (.t 1), some (15, true)⟩,
    ⟨(some 18), .index (.t 16) (.t 17), some (15, true)⟩,
    ⟨(some 19), .bin false .leq (.t 18) (.v (.int .u8 57)), some (15, true)⟩,
    ⟨(some 20), .pick (.t 15) (.t 19) (.v (.bool false)), none⟩,
    ⟨(some 4), .mv (.t 20), none⟩])
  (.canon [] [4] .ret)))
theorem signetref2_digit_chk : chk Try.prog 34 [] = some (signetref2_digit_q.erase, [.tmp 4], 21) := by kernel_rfl
noncomputable def signetref2_digit_s (s : ByteArray) (at_ : Int) : Option Bool :=
  gd ((decide (at_ < (s.size : Int))) = true → 0 ≤ at_ ∧ at_ < s.size) <|
  gd (((decide (at_ < (s.size : Int))) && (decide ((48 : Int) ≤ (bAt s at_)))) = true → 0 ≤ at_ ∧ at_ < s.size) <|
  some (((decide (at_ < (s.size : Int))) && (decide ((48 : Int) ≤ (bAt s at_)))) && (decide ((bAt s at_) ≤ (57 : Int))))
noncomputable def signetref2_digit_G : Nat → Option CQ := tblQ []
theorem signetref2_digit_Gok : ∀ f C, signetref2_digit_G f = some C → ValidQ Try.prog f C := fun f C h => by cases h
noncomputable def signetref2_digit_L : Nat → SubQ := tblL []
theorem signetref2_digit_subs : subsOK signetref2_digit_L signetref2_digit_G 0 5 21 signetref2_digit_q := subs_of (show AllSub signetref2_digit_L signetref2_digit_G 0 5 21 [] from trivial)
theorem signetref2_digit_eq (s : ByteArray) (at_ : Int) (R : Type) (k : SV → List SB → Option R) :
    fnQ signetref2_digit_L signetref2_digit_G 5 21 signetref2_digit_q [.tmp 4] [.c (.o (.val (.string s))), .c (.o (.val (.int .i64 at_)))] [] k = (signetref2_digit_s s at_).bind fun r => k (.c (.o (.val (.bool r)))) [] := by
  simp only [signetref2_digit_s, -eq_self, bind_cond, bind_gd, Option.bind_assoc, Option.bind_some, Sum.elim_inl, Sum.elim_inr, bind_elim]
  kernel_rfl
def signetref2_digit_da := (dCons (dVC (dCO dS)) (dCons (dVC (dCO (dI .i64))) dNil))
def signetref2_digit_db := (dNil : Dec Unit (List SB))
noncomputable def signetref2_digit_c : CS := fun args hp R k => (Dec.d signetref2_digit_da args).bind fun x => (Dec.d signetref2_digit_db hp).bind fun y => (signetref2_digit_s x.1 x.2.1).bind fun r => k (.c (.o (.val (.bool r)))) []
theorem signetref2_digit_val : ValidS Try.prog 34 signetref2_digit_c :=
  val_ok signetref2_digit_chk 5 signetref2_digit_Gok signetref2_digit_da signetref2_digit_db 0 (fun x y R k => (signetref2_digit_s x.1 x.2.1).bind fun r => k (.c (.o (.val (.bool r)))) []) (by kernel_rfl)
    (fun x y R k => by simp only [Option.bind_assoc, Option.bind_some]) (fun x => Nat.le_of_ble_eq_true rfl) (fun y => rfl) signetref2_digit_subs fun x y => signetref2_digit_eq x.1 x.2.1 _ _
noncomputable def signetref2_digit_w : CQ := liftV [] signetref2_digit_c
theorem signetref2_digit_ok : ValidQ Try.prog 34 signetref2_digit_w := liftV_valid signetref2_digit_val

/-! ### signet/signetref2.many -/
def signetref2_many_b0 : IQ :=
  (.loop [0, 1]
    (.seq
    (.seq
    (.reg 7 none [
      ⟨(some 5), .mv (.t 0), none⟩,
      ⟨(some 6), .mv (.t 1), none⟩,
      ⟨(some 7), .call 34 [(.t 5), (.t 6)], none⟩])
    (.cond (.t 7)
      .skip
      (.canon [] [1] (.exit 0))))
    (.block 1
      (.reg 1 none [
        ⟨(some 8), .mv (.t 1), none⟩,
        ⟨(some 9), .bin false .add (.t 8) (.v (.int .i64 1)), none⟩,
        ⟨(some 1), .mv (.t 9), none⟩]))))
def signetref2_many_q : IQ :=
  (.seq
  (.reg 4 none [
    ⟨(some 4), .mv (.v (.int .i64 0)), none⟩])
  (.seq
  (.block 0
    (.canon [] [0, 1] (.sub 0 signetref2_many_b0)))
  (.seq
  (.reg 4 none [
    ⟨(some 10), .mv (.t 1), none⟩,
    ⟨(some 4), .mv (.t 10), none⟩])
  (.canon [] [4] .ret))))
theorem signetref2_many_chk : chk Try.prog 33 [] = some (signetref2_many_q.erase, [.tmp 4], 11) := by kernel_rfl
noncomputable def signetref2_many_p0_step (s : ByteArray) (at_ : Int) : Option (Int ⊕ Int) :=
  (signetref2_digit_s s at_).bind fun r2 =>
  bif r2 then (
    gd (InI64 (at_ + (1 : Int))) <|
    some (.inl (at_ + (1 : Int))))
  else (
    some (.inr at_))
noncomputable def signetref2_many_p0 (s : ByteArray) (at_ : Int) : Option Int :=
  whileO (fun x : Int => signetref2_many_p0_step s x) at_
noncomputable def signetref2_many_s (s : ByteArray) (at_ : Int) : Option Int :=
  (signetref2_many_p0 s at_).bind fun o3 =>
  some o3
noncomputable def signetref2_many_G : Nat → Option CQ := tblQ [(34, signetref2_digit_w)]
theorem signetref2_many_Gok : ∀ f C, signetref2_many_G f = some C → ValidQ Try.prog f C := tblQ_valid ⟨signetref2_digit_ok, trivial⟩
def signetref2_many_d0 := (dQS (dCons (dSl 0 (dVC (dCO dS))) (dCons (dSl 1 (dVC (dCO (dI .i64)))) dNil)) dNil)
noncomputable def signetref2_many_l0 : SubQ := fun S R kn kx kr => (Dec.d signetref2_many_d0 S).bind fun x => (signetref2_many_p0 x.1.1 x.1.2.1).bind fun r => kx 0 ⟨[(1, [], .c (.o (.val (.int .i64 r))))], [], []⟩
noncomputable def signetref2_many_L : Nat → SubQ := tblL [(0, signetref2_many_l0)]
theorem signetref2_many_p0_eq (s : ByteArray) (at_ : Int) (R : Type) (kn : QS → Option R) (kx : Nat → QS → Option R) (kr : QS → Option R) :
    interpQ signetref2_many_L signetref2_many_G 0 5 11 signetref2_many_b0 ⟨[(0, [], .c (.o (.val (.string s)))), (1, [], .c (.o (.val (.int .i64 at_))))], [], []⟩ kn kx kr = (signetref2_many_p0 s at_).bind fun r => kx 0 ⟨[(1, [], .c (.o (.val (.int .i64 r))))], [], []⟩ := by
  refine loop_piece (step := fun x => signetref2_many_p0_step s x) (enc := fun x => ⟨[(0, [], .c (.o (.val (.string s)))), (1, [], .c (.o (.val (.int .i64 x))))], [], []⟩) (ko := fun r => kx 0 ⟨[(1, [], .c (.o (.val (.int .i64 r))))], [], []⟩) ?_ ?_ at_
  · intro x; kernel_rfl
  · intro x ki; simp only [signetref2_many_p0_step, -eq_self, bind_cond, bind_gd, Option.bind_assoc, Option.bind_some, Sum.elim_inl, Sum.elim_inr, bind_elim]; kernel_rfl
theorem signetref2_many_sub0 : SubOK signetref2_many_L signetref2_many_G 0 5 11 0 signetref2_many_b0 := sub_ok' signetref2_many_d0 (fun x R kn kx kr => (signetref2_many_p0 x.1.1 x.1.2.1).bind fun r => kx 0 ⟨[(1, [], .c (.o (.val (.int .i64 r))))], [], []⟩) (by kernel_rfl) fun x R kn kx kr => signetref2_many_p0_eq x.1.1 x.1.2.1 R kn kx kr
theorem signetref2_many_subs : subsOK signetref2_many_L signetref2_many_G 0 5 11 signetref2_many_q := subs_of (show AllSub signetref2_many_L signetref2_many_G 0 5 11 [(0, signetref2_many_b0)] from ⟨signetref2_many_sub0, trivial⟩)
theorem signetref2_many_eq (s : ByteArray) (at_ : Int) (R : Type) (k : SV → List SB → Option R) :
    fnQ signetref2_many_L signetref2_many_G 5 11 signetref2_many_q [.tmp 4] [.c (.o (.val (.string s))), .c (.o (.val (.int .i64 at_)))] [] k = (signetref2_many_s s at_).bind fun r => k (.c (.o (.val (.int .i64 r)))) [] := by
  simp only [signetref2_many_s, -eq_self, bind_cond, bind_gd, Option.bind_assoc, Option.bind_some, Sum.elim_inl, Sum.elim_inr, bind_elim]
  kernel_rfl
def signetref2_many_da := (dCons (dVC (dCO dS)) (dCons (dVC (dCO (dI .i64))) dNil))
def signetref2_many_db := (dNil : Dec Unit (List SB))
noncomputable def signetref2_many_c : CS := fun args hp R k => (Dec.d signetref2_many_da args).bind fun x => (Dec.d signetref2_many_db hp).bind fun y => (signetref2_many_s x.1 x.2.1).bind fun r => k (.c (.o (.val (.int .i64 r)))) []
theorem signetref2_many_val : ValidS Try.prog 33 signetref2_many_c :=
  val_ok signetref2_many_chk 5 signetref2_many_Gok signetref2_many_da signetref2_many_db 0 (fun x y R k => (signetref2_many_s x.1 x.2.1).bind fun r => k (.c (.o (.val (.int .i64 r)))) []) (by kernel_rfl)
    (fun x y R k => by simp only [Option.bind_assoc, Option.bind_some]) (fun x => Nat.le_of_ble_eq_true rfl) (fun y => rfl) signetref2_many_subs fun x y => signetref2_many_eq x.1 x.2.1 _ _
noncomputable def signetref2_many_w : CQ := liftV [] signetref2_many_c
theorem signetref2_many_ok : ValidQ Try.prog 33 signetref2_many_w := liftV_valid signetref2_many_val

/-! ### signet/signetref2.Read -/
def signetref2_Read_b3 : IQ :=
  (.loop [0, 2, 4, 7, 9, 10]
    (.seq
    (.seq
    (.reg 140 none [
      ⟨(some 138), .mv (.t 10), none⟩,
      ⟨(some 139), .mv (.t 9), none⟩,
      ⟨(some 140), .bin false .lss (.t 138) (.t 139), none⟩])
    (.cond (.t 140)
      .skip
      (.canon [] [0, 2, 4, 7, 9] (.exit 0))))
    (.seq
    (.block 1
      (.seq
      (.reg 152 none [
        ⟨(some 143), .mv (.t 0), none⟩,
        ⟨(some 144), .mv (.t 10), none⟩,
        ⟨(some 145), .index (.t 143) (.t 144), none⟩,
        ⟨(some 146), .bin false .neq (.t 145) (.v (.int .u8 48)), none⟩,
        ⟨(some 147), .mv (.t 146), none⟩,
        ⟨(some 148), .faddr 4 (.t 4), some (147, false)⟩,
        ⟨(some 149), .load none (.t 148), some (147, false)⟩,
        ⟨(some 150), .len (.t 149), some (147, false)⟩,
        ⟨(some 151), .bin false .gtr (.t 150) (.v (.int .i64 0)), some (147, false)⟩,
        ⟨(some 152), .pick (.t 147) (.v (.bool true)) (.t 151), none⟩])
      (.cond (.t 152)
        (.reg 0 (some [0, 1, 2, 3, 4, 5, 6, 7, 8, 9, 10]) [
          ⟨(some 153), .faddr 4 (.t 4), none⟩,
          ⟨(some 154), .load none (.t 153), none⟩,
          ⟨(some 155), .mv (.t 0), none⟩,
          ⟨(some 156), .mv (.t 10), none⟩,
          ⟨(some 157), .index (.t 155) (.t 156), none⟩,
          ⟨(some 158), .bin false .sub (.t 157) (.v (.int .u8 48)), none⟩,
          ⟨(some 159), .conv false .i64 (.t 158), none⟩,
          ⟨(some 160), .bslice 3 1 1 [.int .i64 0] [(0, (.t 159))], none⟩,
          ⟨(some 161), .append 3 1 8 [.int .i64 0] (.t 154) (.t 160), none⟩,
          ⟨(some 162), .faddr 4 (.t 4), none⟩,
          ⟨none, .store 1 (.t 162) (.t 161), none⟩])
        .skip)))
    (.reg 10 none [
      ⟨(some 141), .mv (.t 10), none⟩,
      ⟨(some 142), .bin false .add (.t 141) (.v (.int .i64 1)), none⟩,
      ⟨(some 10), .mv (.t 142), none⟩]))))
def signetref2_Read_b2 : IQ :=
  (.join [] [0, 2, 4, 5, 7]
  (.seq
  (.reg 9 none [
    ⟨(some 130), .mv (.t 0), none⟩,
    ⟨(some 131), .mv (.t 5), none⟩,
    ⟨(some 132), .call 33 [(.t 130), (.t 131)], none⟩,
    ⟨(some 9), .mv (.t 132), none⟩])
  (.seq
  (.seq
  (.reg 135 none [
    ⟨(some 133), .mv (.t 9), none⟩,
    ⟨(some 134), .mv (.t 5), none⟩,
    ⟨(some 135), .bin false .eql (.t 133) (.t 134), none⟩])
  (.cond (.t 135)
    (.seq
    (.reg 3 none [
      ⟨(some 136), .load (some 7) (.t 4), none⟩,
      ⟨none, .store 7 (.t 2) (.t 136), none⟩,
      ⟨(some 3), .mv (.v (.bool false)), none⟩])
    (.canon [(2, some 1, .i64, 3), (2, some 4, .i64, 3)] [2, 3] .ret))
    .skip))
  (.seq
  (.seq
  (.reg 10 none [
    ⟨(some 137), .mv (.t 5), none⟩,
    ⟨(some 10), .mv (.t 137), none⟩])
  (.block 0
    (.canon [(4, some 4, .i64, 3)] [0, 2, 4, 7, 9, 10] (.sub 3 signetref2_Read_b3))))
  (.reg 5 none [
    ⟨(some 163), .mv (.t 9), none⟩,
    ⟨(some 5), .mv (.t 163), none⟩])))))
def signetref2_Read_b5 : IQ :=
  (.loop [2, 4, 7, 11]
    (.seq
    (.seq
    (.reg 172 none [
      ⟨(some 169), .mv (.t 11), none⟩,
      ⟨(some 170), .mv (.t 7), none⟩,
      ⟨(some 171), .lenS (.t 170), none⟩,
      ⟨(some 172), .bin false .lss (.t 169) (.t 171), none⟩])
    (.cond (.t 172)
      .skip
      (.canon [] [2, 4] (.exit 2))))
    (.seq
    (.block 3
      (.seq
      (.reg 12 none [
        ⟨(some 175), .mv (.t 7), none⟩,
        ⟨(some 176), .mv (.t 11), none⟩,
        ⟨(some 177), .index (.t 175) (.t 176), none⟩,
        ⟨(some 178), .bin false .sub (.t 177) (.v (.int .u8 48)), none⟩,
        ⟨(some 179), .conv false .i64 (.t 178), none⟩,
        ⟨(some 12), .mv (.t 179), none⟩])
      (.seq
      (.reg 187 none [
        ⟨(some 180), .mv (.t 12), none⟩,
        ⟨(some 181), .bin false .neq (.t 180) (.v (.int .i64 0)), none⟩,
        ⟨(some 182), .mv (.t 181), none⟩,
        ⟨(some 183), .faddr 1 (.t 4), some (182, false)⟩,
        ⟨(some 184), .load none (.t 183), some (182, false)⟩,
        ⟨(some 185), .len (.t 184), some (182, false)⟩,
        ⟨(some 186), .bin false .gtr (.t 185) (.v (.int .i64 0)), some (182, false)⟩,
        ⟨(some 187), .pick (.t 182) (.v (.bool true)) (.t 186), none⟩])
      (.cond (.t 187)
        (.reg 0 none [
          ⟨(some 188), .faddr 1 (.t 4), none⟩,
          ⟨(some 189), .load none (.t 188), none⟩,
          ⟨(some 190), .mv (.t 12), none⟩,
          ⟨(some 191), .bslice 3 1 1 [.int .i64 0] [(0, (.t 190))], none⟩,
          ⟨(some 192), .append 3 1 8 [.int .i64 0] (.t 189) (.t 191), none⟩,
          ⟨(some 193), .faddr 1 (.t 4), none⟩,
          ⟨none, .store 1 (.t 193) (.t 192), none⟩])
        (.reg 0 none [
          ⟨(some 194), .faddr 2 (.t 4), none⟩,
          ⟨(some 195), .load none (.t 194), none⟩,
          ⟨(some 196), .bin false .sub (.t 195) (.v (.int .i64 1)), none⟩,
          ⟨(some 197), .faddr 2 (.t 4), none⟩,
          ⟨none, .store 1 (.t 197) (.t 196), none⟩])))))
    (.reg 11 none [
      ⟨(some 173), .mv (.t 11), none⟩,
      ⟨(some 174), .bin false .add (.t 173) (.v (.int .i64 1)), none⟩,
      ⟨(some 11), .mv (.t 174), none⟩]))))
def signetref2_Read_b6 : IQ :=
  (.loop [2, 4]
    (.seq
    (.seq
    (.reg 212 none [
      ⟨(some 198), .faddr 1 (.t 4), none⟩,
      ⟨(some 199), .load none (.t 198), none⟩,
      ⟨(some 200), .len (.t 199), none⟩,
      ⟨(some 201), .bin false .gtr (.t 200) (.v (.int .i64 0)), none⟩,
      ⟨(some 202), .mv (.t 201), none⟩,
      ⟨(some 203), .faddr 1 (.t 4), some (202, true)⟩,
      ⟨(some 204), .load none (.t 203), some (202, true)⟩,
      ⟨(some 205), .faddr 1 (.t 4), some (202, true)⟩,
      ⟨(some 206), .load none (.t 205), some (202, true)⟩,
      ⟨(some 207), .len (.t 206), some (202, true)⟩,
      ⟨(some 208), .bin false .sub (.t 207) (.v (.int .i64 1)), some (202, true)⟩,
      ⟨(some 209), .iaddr 1 (.t 204) (.t 208), some (202, true)⟩,
      ⟨(some 210), .load none (.t 209), some (202, true)⟩,
      ⟨(some 211), .bin false .eql (.t 210) (.v (.int .i64 0)), some (202, true)⟩,
      ⟨(some 212), .pick (.t 202) (.t 211) (.v (.bool false)), none⟩])
    (.cond (.t 212)
      .skip
      (.canon [] [2, 4] (.exit 4))))
    (.block 5
      (.reg 0 none [
        ⟨(some 213), .faddr 1 (.t 4), none⟩,
        ⟨(some 214), .load none (.t 213), none⟩,
        ⟨(some 215), .faddr 1 (.t 4), none⟩,
        ⟨(some 216), .load none (.t 215), none⟩,
        ⟨(some 217), .len (.t 216), none⟩,
        ⟨(some 218), .bin false .sub (.t 217) (.v (.int .i64 1)), none⟩,
        ⟨(some 219), .sub (some 1) (.t 214) none (some (.t 218)), none⟩,
        ⟨(some 220), .faddr 1 (.t 4), none⟩,
        ⟨none, .store 1 (.t 220) (.t 219), none⟩]))))
def signetref2_Read_b4 : IQ :=
  (.seq
  (.seq
  (.reg 167 none [
    ⟨(some 164), .mv (.t 5), none⟩,
    ⟨(some 165), .mv (.t 0), none⟩,
    ⟨(some 166), .lenS (.t 165), none⟩,
    ⟨(some 167), .bin false .neq (.t 164) (.t 166), none⟩])
  (.cond (.t 167)
    (.seq
    (.reg 3 none [
      ⟨(some 168), .load (some 7) (.t 4), none⟩,
      ⟨none, .store 7 (.t 2) (.t 168), none⟩,
      ⟨(some 3), .mv (.v (.bool false)), none⟩])
    (.canon [(2, some 1, .i64, 3), (2, some 4, .i64, 3)] [2, 3] .ret))
    .skip))
  (.seq
  (.seq
  (.reg 11 none [
    ⟨(some 11), .mv (.v (.int .i64 0)), none⟩])
  (.block 2
    (.canon [(4, some 1, .i64, 3)] [2, 4, 7, 11] (.sub 5 signetref2_Read_b5))))
  (.seq
  (.block 4
    (.canon [] [2, 4] (.sub 6 signetref2_Read_b6)))
  (.seq
  (.reg 3 none [
    ⟨(some 221), .load (some 7) (.t 4), none⟩,
    ⟨none, .store 7 (.t 2) (.t 221), none⟩,
    ⟨(some 3), .mv (.v (.bool true)), none⟩])
  (.canon [(2, some 1, .i64, 3), (2, some 4, .i64, 3)] [2, 3] .ret)))))
def signetref2_Read_b1 : IQ :=
  (.seq
  (.seq
  (.reg 103 none [
    ⟨(some 88), .mv (.t 5), none⟩,
    ⟨(some 89), .mv (.t 0), none⟩,
    ⟨(some 90), .lenS (.t 89), none⟩,
    ⟨(some 91), .bin false .lss (.t 88) (.t 90), none⟩,
    ⟨(some 92), .mv (.t 91), none⟩,
    ⟨(some 93), .mv (.t 0), some (92, true)⟩,
    ⟨(some 94), .mv (.t 5), some (92, true)⟩,
    ⟨(some 95), .index (.t 93) (.t 94), some (92, true)⟩,
    ⟨(some 96), .bin false .eql (.t 95) (.v (.int .u8 101)), some (92, true)⟩,
    ⟨(some 97), .mv (.t 96), some (92, true)⟩,
    ⟨(some 98), .mv (.t 0), some (97, false)⟩,
    ⟨(some 99), .mv (.t 5), some (97, false)⟩,
    ⟨(some 100), .index (.t 98) (.t 99), some (97, false)⟩,
    ⟨(some 101), .bin false .eql (.t 100) (.v (.int .u8 69)), some (97, false)⟩,
    ⟨(some 102), .pick (.t 97) (.v (.bool true)) (.t 101), some (92, true)⟩,
    ⟨(some 103), .pick (.t 92) (.t 102) (.v (.bool false)), none⟩])
  (.cond (.t 103)
    (.seq
    (.reg 0 none [
      ⟨(some 104), .faddr 5 (.t 4), none⟩,
      ⟨none, .store 1 (.t 104) (.v (.bool false)), none⟩])
    (.seq
    (.reg 5 none [
      ⟨(some 105), .mv (.t 5), none⟩,
      ⟨(some 106), .bin false .add (.t 105) (.v (.int .i64 1)), none⟩,
      ⟨(some 5), .mv (.t 106), none⟩])
    (.seq
    (.seq
    (.reg 122 none [
      ⟨(some 107), .mv (.t 5), none⟩,
      ⟨(some 108), .mv (.t 0), none⟩,
      ⟨(some 109), .lenS (.t 108), none⟩,
      ⟨(some 110), .bin false .lss (.t 107) (.t 109), none⟩,
      ⟨(some 111), .mv (.t 110), none⟩,
      ⟨(some 112), .mv (.t 0), some (111, true)⟩,
      ⟨(some 113), .mv (.t 5), some (111, true)⟩,
      ⟨(some 114), .index (.t 112) (.t 113), some (111, true)⟩,
      ⟨(some 115), .bin false .eql (.t 114) (.v (.int .u8 43)), some (111, true)⟩,
      ⟨(some 116), .mv (.t 115), some (111, true)⟩,
      ⟨(some 117), .mv (.t 0), some (116, false)⟩,
      ⟨(some 118), .mv (.t 5), some (116, false)⟩,
      ⟨(some 119), .index (.t 117) (.t 118), some (116, false)⟩,
      ⟨(some 120), .bin false .eql (.t 119) (.v (.int .u8 45)), some (116, false)⟩,
      ⟨(some 121), .pick (.t 116) (.v (.bool true)) (.t 120), some (111, true)⟩,
      ⟨(some 122), .pick (.t 111) (.t 121) (.v (.bool false)), none⟩])
    (.cond (.t 122)
      (.seq
      (.reg 0 none [
        ⟨(some 123), .mv (.t 0), none⟩,
        ⟨(some 124), .mv (.t 5), none⟩,
        ⟨(some 125), .index (.t 123) (.t 124), none⟩,
        ⟨(some 126), .bin false .eql (.t 125) (.v (.int .u8 45)), none⟩,
        ⟨(some 127), .faddr 3 (.t 4), none⟩,
        ⟨none, .store 1 (.t 127) (.t 126), none⟩])
      (.reg 5 none [
        ⟨(some 128), .mv (.t 5), none⟩,
        ⟨(some 129), .bin false .add (.t 128) (.v (.int .i64 1)), none⟩,
        ⟨(some 5), .mv (.t 129), none⟩]))
      .skip))
    (.canon [] [0, 2, 4, 5, 7] (.sub 2 signetref2_Read_b2)))))
    .skip))
  (.canon [(4, some 4, .i64, 3)] [0, 2, 4, 5, 7] (.sub 4 signetref2_Read_b4)))
def signetref2_Read_b0 : IQ :=
  (.seq
  (.reg 6 none [
    ⟨(some 27), .mv (.t 5), none⟩,
    ⟨(some 6), .mv (.t 27), none⟩])
  (.seq
  (.reg 5 none [
    ⟨(some 28), .mv (.t 0), none⟩,
    ⟨(some 29), .mv (.t 5), none⟩,
    ⟨(some 30), .call 33 [(.t 28), (.t 29)], none⟩,
    ⟨(some 5), .mv (.t 30), none⟩])
  (.seq
  (.seq
  (.reg 45 none [
    ⟨(some 31), .mv (.t 5), none⟩,
    ⟨(some 32), .mv (.t 6), none⟩,
    ⟨(some 33), .bin false .eql (.t 31) (.t 32), none⟩,
    ⟨(some 34), .mv (.t 33), none⟩,
    ⟨(some 35), .mv (.t 0), some (34, false)⟩,
    ⟨(some 36), .mv (.t 6), some (34, false)⟩,
    ⟨(some 37), .index (.t 35) (.t 36), some (34, false)⟩,
    ⟨(some 38), .bin false .eql (.t 37) (.v (.int .u8 48)), some (34, false)⟩,
    ⟨(some 39), .mv (.t 38), some (34, false)⟩,
    ⟨(some 40), .mv (.t 5), some (39, true)⟩,
    ⟨(some 41), .mv (.t 6), some (39, true)⟩,
    ⟨(some 42), .bin false .add (.t 41) (.v (.int .i64 1)), some (39, true)⟩,
    ⟨(some 43), .bin false .gtr (.t 40) (.t 42), some (39, true)⟩,
    ⟨(some 44), .pick (.t 39) (.t 43) (.v (.bool false)), some (34, false)⟩,
    ⟨(some 45), .pick (.t 34) (.v (.bool true)) (.t 44), none⟩])
  (.cond (.t 45)
    (.seq
    (.reg 3 none [
      ⟨(some 46), .load (some 7) (.t 4), none⟩,
      ⟨none, .store 7 (.t 2) (.t 46), none⟩,
      ⟨(some 3), .mv (.v (.bool false)), none⟩])
    (.canon [(2, some 1, .i64, 3), (2, some 4, .i64, 3)] [2, 3] .ret))
    .skip))
  (.seq
  (.reg 0 none [
    ⟨(some 47), .mv (.t 0), none⟩,
    ⟨(some 48), .mv (.t 6), none⟩,
    ⟨(some 49), .mv (.t 5), none⟩,
    ⟨(some 50), .sub none (.t 47) (some (.t 48)) (some (.t 49)), none⟩,
    ⟨(some 51), .faddr 6 (.t 4), none⟩,
    ⟨none, .store 1 (.t 51) (.t 50), none⟩])
  (.seq
  (.reg 7 none [
    ⟨(some 52), .mv (.t 0), none⟩,
    ⟨(some 53), .mv (.t 6), none⟩,
    ⟨(some 54), .mv (.t 5), none⟩,
    ⟨(some 55), .sub none (.t 52) (some (.t 53)) (some (.t 54)), none⟩,
    ⟨(some 7), .mv (.t 55), none⟩])
  (.seq
  (.reg 0 none [
    ⟨(some 56), .mv (.t 5), none⟩,
    ⟨(some 57), .mv (.t 6), none⟩,
    ⟨(some 58), .bin false .sub (.t 56) (.t 57), none⟩,
    ⟨(some 59), .faddr 2 (.t 4), none⟩,
    ⟨none, .store 1 (.t 59) (.t 58), none⟩])
  (.seq
  (.seq
  (.reg 69 none [
    ⟨(some 60), .mv (.t 5), none⟩,
    ⟨(some 61), .mv (.t 0), none⟩,
    ⟨(some 62), .lenS (.t 61), none⟩,
    ⟨(some 63), .bin false .lss (.t 60) (.t 62), none⟩,
    ⟨(some 64), .mv (.t 63), none⟩,
    ⟨(some 65), .mv (.t 0), some (64, true)⟩,
    ⟨(some 66), .mv (.t 5), some (64, true)⟩,
    ⟨(some 67), .index (.t 65) (.t 66), some (64, true)⟩,
    ⟨(some 68), .bin false .eql (.t 67) (.v (.int .u8 46)), some (64, true)⟩,
    ⟨(some 69), .pick (.t 64) (.t 68) (.v (.bool false)), none⟩])
  (.cond (.t 69)
    (.seq
    (.reg 0 none [
      ⟨(some 70), .faddr 5 (.t 4), none⟩,
      ⟨none, .store 1 (.t 70) (.v (.bool false)), none⟩])
    (.seq
    (.reg 8 none [
      ⟨(some 71), .mv (.t 0), none⟩,
      ⟨(some 72), .mv (.t 5), none⟩,
      ⟨(some 73), .bin false .add (.t 72) (.v (.int .i64 1)), none⟩,
      ⟨(some 74), .call 33 [(.t 71), (.t 73)], none⟩,
      ⟨(some 8), .mv (.t 74), none⟩])
    (.seq
    (.seq
    (.reg 78 none [
      ⟨(some 75), .mv (.t 8), none⟩,
      ⟨(some 76), .mv (.t 5), none⟩,
      ⟨(some 77), .bin false .add (.t 76) (.v (.int .i64 1)), none⟩,
      ⟨(some 78), .bin false .eql (.t 75) (.t 77), none⟩])
    (.cond (.t 78)
      (.seq
      (.reg 3 none [
        ⟨(some 79), .load (some 7) (.t 4), none⟩,
        ⟨none, .store 7 (.t 2) (.t 79), none⟩,
        ⟨(some 3), .mv (.v (.bool false)), none⟩])
      (.canon [(2, some 1, .i64, 3), (2, some 4, .i64, 3)] [2, 3] .ret))
      .skip))
    (.seq
    (.reg 7 none [
      ⟨(some 80), .mv (.t 7), none⟩,
      ⟨(some 81), .mv (.t 0), none⟩,
      ⟨(some 82), .mv (.t 5), none⟩,
      ⟨(some 83), .bin false .add (.t 82) (.v (.int .i64 1)), none⟩,
      ⟨(some 84), .mv (.t 8), none⟩,
      ⟨(some 85), .sub none (.t 81) (some (.t 83)) (some (.t 84)), none⟩,
      ⟨(some 86), .bin false .add (.t 80) (.t 85), none⟩,
      ⟨(some 7), .mv (.t 86), none⟩])
    (.reg 5 none [
      ⟨(some 87), .mv (.t 8), none⟩,
      ⟨(some 5), .mv (.t 87), none⟩])))))
    .skip))
  (.canon [] [0, 2, 4, 5, 7] (.sub 1 signetref2_Read_b1)))))))))
def signetref2_Read_q : IQ :=
  (.seq
  (.reg 3 none [
    ⟨(some 2), .alloc 56 [.bool false, .slice none 0 0, .int .i64 0, .bool false, .slice none 0 0, .bool false, .string ⟨#[]⟩], none⟩,
    ⟨(some 3), .mv (.v (.bool false)), none⟩])
  (.seq
  (.reg 0 none [
    ⟨(some 13), .build [.bool false, .slice none 0 0, .int .i64 0, .bool false, .slice none 0 0, .bool false, .string ⟨#[]⟩] [(5, 1, (.v (.bool true)))], none⟩,
    ⟨(some 4), .alloc 56 [.bool false, .slice none 0 0, .int .i64 0, .bool false, .slice none 0 0, .bool false, .string ⟨#[]⟩], none⟩,
    ⟨none, .store 7 (.t 4) (.t 13), none⟩])
  (.seq
  (.reg 5 none [
    ⟨(some 5), .mv (.v (.int .i64 0)), none⟩])
  (.seq
  (.seq
  (.reg 23 none [
    ⟨(some 14), .mv (.t 5), none⟩,
    ⟨(some 15), .mv (.t 0), none⟩,
    ⟨(some 16), .lenS (.t 15), none⟩,
    ⟨(some 17), .bin false .lss (.t 14) (.t 16), none⟩,
    ⟨(some 18), .mv (.t 17), none⟩,
    ⟨(some 19), .mv (.t 0), some (18, true)⟩,
    ⟨(some 20), .mv (.t 5), some (18, true)⟩,
    ⟨(some 21), .index (.t 19) (.t 20), some (18, true)⟩,
    ⟨(some 22), .bin false .eql (.t 21) (.v (.int .u8 45)), some (18, true)⟩,
    ⟨(some 23), .pick (.t 18) (.t 22) (.v (.bool false)), none⟩])
  (.cond (.t 23)
    (.seq
    (.reg 0 none [
      ⟨(some 24), .faddr 0 (.t 4), none⟩,
      ⟨none, .store 1 (.t 24) (.v (.bool true)), none⟩])
    (.reg 5 none [
      ⟨(some 25), .mv (.t 5), none⟩,
      ⟨(some 26), .bin false .add (.t 25) (.v (.int .i64 1)), none⟩,
      ⟨(some 5), .mv (.t 26), none⟩]))
    .skip))
  (.canon [] [0, 2, 4, 5] (.sub 0 signetref2_Read_b0))))))
theorem signetref2_Read_chk : chk Try.prog 29 [] = some (signetref2_Read_q.erase, [.cell 2 (some 7), .tmp 3], 222) := by kernel_rfl
noncomputable def signetref2_Read_p3_step (s : ByteArray) (k_ : Int) (i : Int) (n_Exp : List Int) : Option ((Int × (List Int)) ⊕ ((List Int))) :=
  bif decide (i < k_) then (
    gd (0 ≤ i ∧ i < s.size) <|
    bif ((!decide ((bAt s i) = (48 : Int))) || (decide ((0 : Int) < (n_Exp.length : Int)))) then (
      gd (0 ≤ i ∧ i < s.size) <|
      gd (InI64 (((bAt s i) - (48 : Int)) % 256)) <|
      gd (n_Exp.length + ([(((bAt s i) - (48 : Int)) % 256)] : List Int).length ≤ 9223372036854775807 ∧ (n_Exp.length + ([(((bAt s i) - (48 : Int)) % 256)] : List Int).length) * 8 ≤ 140737488355328) <|
      gd (InI64 (i + (1 : Int))) <|
      some (.inl ((i + (1 : Int)), (n_Exp ++ [(((bAt s i) - (48 : Int)) % 256)]))))
    else (
      gd (InI64 (i + (1 : Int))) <|
      some (.inl ((i + (1 : Int)), n_Exp))))
  else (
    some (.inr n_Exp))
noncomputable def signetref2_Read_p3 (s : ByteArray) (k_ : Int) (i : Int) (n_Exp : List Int) : Option ((List Int)) :=
  whileO (fun x : (Int × (List Int)) => signetref2_Read_p3_step s k_ x.1 x.2) (i, n_Exp)
noncomputable def signetref2_Read_p2 (s : ByteArray) (at_ : Int) : Option ((Bool × (List Int) × (List Int)) ⊕ (Int × (List Int))) :=
  (signetref2_many_s s at_).bind fun r81 =>
  bif decide (r81 = at_) then (
    some (.inl (false, [], [])))
  else (
    (signetref2_Read_p3 s r81 at_ []).bind fun o82 =>
    some (.inr (r81, o82)))
noncomputable def signetref2_Read_p5_step (all : ByteArray) (i : Int) (n_Off : Int) (n_Digits : List Int) : Option ((Int × Int × (List Int)) ⊕ (Int × (List Int))) :=
  bif decide (i < (all.size : Int)) then (
    gd (0 ≤ i ∧ i < all.size) <|
    gd (InI64 (((bAt all i) - (48 : Int)) % 256)) <|
    bif ((!decide ((((bAt all i) - (48 : Int)) % 256) = (0 : Int))) || (decide ((0 : Int) < (n_Digits.length : Int)))) then (
      gd (n_Digits.length + ([(((bAt all i) - (48 : Int)) % 256)] : List Int).length ≤ 9223372036854775807 ∧ (n_Digits.length + ([(((bAt all i) - (48 : Int)) % 256)] : List Int).length) * 8 ≤ 140737488355328) <|
      gd (InI64 (i + (1 : Int))) <|
      some (.inl ((i + (1 : Int)), n_Off, (n_Digits ++ [(((bAt all i) - (48 : Int)) % 256)]))))
    else (
      gd (InI64 (n_Off - (1 : Int))) <|
      gd (InI64 (i + (1 : Int))) <|
      some (.inl ((i + (1 : Int)), (n_Off - (1 : Int)), n_Digits))))
  else (
    some (.inr (n_Off, n_Digits)))
noncomputable def signetref2_Read_p5 (all : ByteArray) (i : Int) (n_Off : Int) (n_Digits : List Int) : Option (Int × (List Int)) :=
  whileO (fun x : (Int × Int × (List Int)) => signetref2_Read_p5_step all x.1 x.2.1 x.2.2) (i, n_Off, n_Digits)
noncomputable def signetref2_Read_p6_step (n_Digits : List Int) : Option (((List Int)) ⊕ ((List Int))) :=
  gd ((decide ((0 : Int) < (n_Digits.length : Int))) = true → InI64 ((n_Digits.length : Int) - (1 : Int))) <|
  gd ((decide ((0 : Int) < (n_Digits.length : Int))) = true → 0 ≤ ((n_Digits.length : Int) - (1 : Int)) ∧ ((n_Digits.length : Int) - (1 : Int)) < n_Digits.length) <|
  gd ((decide ((0 : Int) < (n_Digits.length : Int))) = true → (Int.toNat ((n_Digits.length : Int) - (1 : Int))) < n_Digits.length) <|
  bif ((decide ((0 : Int) < (n_Digits.length : Int))) && (decide ((n_Digits.getD (Int.toNat ((n_Digits.length : Int) - (1 : Int))) (ET.dft .i64)) = (0 : Int)))) then (
    gd (InI64 ((n_Digits.length : Int) - (1 : Int))) <|
    gd (0 ≤ ((n_Digits.length : Int) - (1 : Int)) ∧ ((n_Digits.length : Int) - (1 : Int)) ≤ n_Digits.length) <|
    some (.inl (n_Digits.take (Int.toNat ((n_Digits.length : Int) - (1 : Int))))))
  else (
    some (.inr n_Digits))
noncomputable def signetref2_Read_p6 (n_Digits : List Int) : Option ((List Int)) :=
  whileO (fun x : ((List Int)) => signetref2_Read_p6_step x) n_Digits
noncomputable def signetref2_Read_p4 (s : ByteArray) (at_ : Int) (all : ByteArray) (n_Off : Int) : Option (Bool × Int × (List Int)) :=
  bif (!decide (at_ = (s.size : Int))) then (
    some (false, n_Off, []))
  else (
    (signetref2_Read_p5 all (0 : Int) n_Off []).bind fun o84 =>
    (signetref2_Read_p6 o84.2).bind fun o85 =>
    some (true, o84.1, o85))
noncomputable def signetref2_Read_p1 (s : ByteArray) (at_ : Int) (all : ByteArray) (n_Off : Int) (n_Down : Bool) (n_Plain : Bool) : Option (Bool × Int × Bool × Bool × (List Int) × (List Int)) :=
  gd ((decide (at_ < (s.size : Int))) = true → 0 ≤ at_ ∧ at_ < s.size) <|
  gd ((decide ((bAt s at_) = (101 : Int))) = false → (decide (at_ < (s.size : Int))) = true → 0 ≤ at_ ∧ at_ < s.size) <|
  bif ((decide (at_ < (s.size : Int))) && ((decide ((bAt s at_) = (101 : Int))) || (decide ((bAt s at_) = (69 : Int))))) then (
    gd (InI64 (at_ + (1 : Int))) <|
    gd ((decide ((at_ + (1 : Int)) < (s.size : Int))) = true → 0 ≤ (at_ + (1 : Int)) ∧ (at_ + (1 : Int)) < s.size) <|
    gd ((decide ((bAt s (at_ + (1 : Int))) = (43 : Int))) = false → (decide ((at_ + (1 : Int)) < (s.size : Int))) = true → 0 ≤ (at_ + (1 : Int)) ∧ (at_ + (1 : Int)) < s.size) <|
    bif ((decide ((at_ + (1 : Int)) < (s.size : Int))) && ((decide ((bAt s (at_ + (1 : Int))) = (43 : Int))) || (decide ((bAt s (at_ + (1 : Int))) = (45 : Int))))) then (
      gd (0 ≤ (at_ + (1 : Int)) ∧ (at_ + (1 : Int)) < s.size) <|
      gd (InI64 ((at_ + (1 : Int)) + (1 : Int))) <|
      (signetref2_Read_p2 s ((at_ + (1 : Int)) + (1 : Int))).bind fun o83 => (Sum.elim (fun (o83_0 : Bool × (List Int) × (List Int)) =>
        some (o83_0.1, n_Off, decide ((bAt s (at_ + (1 : Int))) = (45 : Int)), false, o83_0.2.1, o83_0.2.2)) (fun (o83_1 : Int × (List Int)) =>
        (signetref2_Read_p4 s o83_1.1 all n_Off).bind fun o86 =>
        some (o86.1, o86.2.1, decide ((bAt s (at_ + (1 : Int))) = (45 : Int)), false, o86.2.2, o83_1.2))) o83)
    else (
      (signetref2_Read_p2 s (at_ + (1 : Int))).bind fun o87 => (Sum.elim (fun (o87_0 : Bool × (List Int) × (List Int)) =>
        some (o87_0.1, n_Off, n_Down, false, o87_0.2.1, o87_0.2.2)) (fun (o87_1 : Int × (List Int)) =>
        (signetref2_Read_p4 s o87_1.1 all n_Off).bind fun o88 =>
        some (o88.1, o88.2.1, n_Down, false, o88.2.2, o87_1.2))) o87))
  else (
    (signetref2_Read_p4 s at_ all n_Off).bind fun o89 =>
    some (o89.1, o89.2.1, n_Down, n_Plain, o89.2.2, []))
noncomputable def signetref2_Read_p0 (s : ByteArray) (at_ : Int) (n_Off : Int) (n_Down : Bool) (n_Plain : Bool) (n_Text : ByteArray) : Option (Bool × Int × Bool × Bool × ByteArray × (List Int) × (List Int)) :=
  (signetref2_many_s s at_).bind fun r79 =>
  gd ((decide (r79 = at_)) = false → 0 ≤ at_ ∧ at_ < s.size) <|
  gd ((decide ((bAt s at_) = (48 : Int))) = true → (decide (r79 = at_)) = false → InI64 (at_ + (1 : Int))) <|
  bif ((decide (r79 = at_)) || ((decide ((bAt s at_) = (48 : Int))) && (decide ((at_ + (1 : Int)) < r79)))) then (
    some (false, n_Off, n_Down, n_Plain, n_Text, [], []))
  else (
    gd (0 ≤ at_ ∧ at_ ≤ r79 ∧ r79 ≤ s.size) <|
    gd (0 ≤ at_ ∧ at_ ≤ r79 ∧ r79 ≤ s.size) <|
    gd (InI64 (r79 - at_)) <|
    gd ((decide (r79 < (s.size : Int))) = true → 0 ≤ r79 ∧ r79 < s.size) <|
    bif ((decide (r79 < (s.size : Int))) && (decide ((bAt s r79) = (46 : Int)))) then (
      gd (InI64 (r79 + (1 : Int))) <|
      (signetref2_many_s s (r79 + (1 : Int))).bind fun r80 =>
      gd (InI64 (r79 + (1 : Int))) <|
      bif decide (r80 = (r79 + (1 : Int))) then (
        some (false, (r79 - at_), n_Down, false, (s.extract (Int.toNat at_) (Int.toNat r79)), [], []))
      else (
        gd (InI64 (r79 + (1 : Int))) <|
        gd (0 ≤ (r79 + (1 : Int)) ∧ (r79 + (1 : Int)) ≤ r80 ∧ r80 ≤ s.size) <|
        gd ((s.extract (Int.toNat at_) (Int.toNat r79)).size + (s.extract (Int.toNat (r79 + (1 : Int))) (Int.toNat r80)).size ≤ 9223372036854775807) <|
        (signetref2_Read_p1 s r80 ((s.extract (Int.toNat at_) (Int.toNat r79)) ++ (s.extract (Int.toNat (r79 + (1 : Int))) (Int.toNat r80))) (r79 - at_) n_Down false).bind fun o90 =>
        some (o90.1, o90.2.1, o90.2.2.1, o90.2.2.2.1, (s.extract (Int.toNat at_) (Int.toNat r79)), o90.2.2.2.2.1, o90.2.2.2.2.2)))
    else (
      (signetref2_Read_p1 s r79 (s.extract (Int.toNat at_) (Int.toNat r79)) (r79 - at_) n_Down n_Plain).bind fun o91 =>
      some (o91.1, o91.2.1, o91.2.2.1, o91.2.2.2.1, (s.extract (Int.toNat at_) (Int.toNat r79)), o91.2.2.2.2.1, o91.2.2.2.2.2)))
noncomputable def signetref2_Read_s (s : ByteArray) : Option (signetref2_Num × Bool) :=
  gd ((decide ((0 : Int) < (s.size : Int))) = true → 0 ≤ (0 : Int) ∧ (0 : Int) < s.size) <|
  bif ((decide ((0 : Int) < (s.size : Int))) && (decide ((bAt s (0 : Int)) = (45 : Int)))) then (
    gd (InI64 ((0 : Int) + (1 : Int))) <|
    (signetref2_Read_p0 s ((0 : Int) + (1 : Int)) (0 : Int) false true (⟨#[]⟩ : ByteArray)).bind fun o92 =>
    some ((⟨true, o92.2.2.2.2.2.1, o92.2.1, o92.2.2.1, o92.2.2.2.2.2.2, o92.2.2.2.1, o92.2.2.2.2.1⟩ : signetref2_Num), o92.1))
  else (
    (signetref2_Read_p0 s (0 : Int) (0 : Int) false true (⟨#[]⟩ : ByteArray)).bind fun o93 =>
    some ((⟨false, o93.2.2.2.2.2.1, o93.2.1, o93.2.2.1, o93.2.2.2.2.2.2, o93.2.2.2.1, o93.2.2.2.2.1⟩ : signetref2_Num), o93.1))
noncomputable def signetref2_Read_G : Nat → Option CQ := tblQ [(33, signetref2_many_w)]
theorem signetref2_Read_Gok : ∀ f C, signetref2_Read_G f = some C → ValidQ Try.prog f C := tblQ_valid ⟨signetref2_many_ok, trivial⟩
def signetref2_Read_d3 := (dQS (dCons (dSl 0 (dVC (dCO dS))) (dCons (dSl 2 (dVC (dCO (dH 0 0)))) (dCons (dSl 4 (dVC (dCO (dH 1 0)))) (dCons (dSl 7 (dVC (dCO dS))) (dCons (dSl 9 (dVC (dCO (dI .i64)))) (dCons (dSl 10 (dVC (dCO (dI .i64)))) dNil)))))) (dCons (dCells 56 (dCons dB (dCons dNS (dCons (dI .i64) (dCons dB (dCons dNS (dCons dB (dCons dS dNil)))))))) (dCons (dCells 56 (dCons dB (dCons dNS (dCons (dI .i64) (dCons dB (dCons (dO 2) (dCons dB (dCons dS dNil)))))))) (dCons (dRow .i64 3) dNil))))
noncomputable def signetref2_Read_l3 : SubQ := fun S R kn kx kr => (Dec.d signetref2_Read_d3 S).bind fun x => (signetref2_Read_p3 x.1.1 x.1.2.2.2.2.1 x.1.2.2.2.2.2.1 x.2.2.2.1).bind fun r => kx 0 ⟨[(0, [], .c (.o (.val (.string x.1.1)))), (2, [], .c (.o (.hd 0 0))), (4, [], .c (.o (.hd 1 0))), (7, [], .c (.o (.val (.string x.1.2.2.2.1)))), (9, [], .c (.o (.val (.int .i64 x.1.2.2.2.2.1))))], [], [.cells 56 [.val (.bool x.2.1.1), .val (.slice none 0 0), .val (.int .i64 x.2.1.2.2.1), .val (.bool x.2.1.2.2.2.1), .val (.slice none 0 0), .val (.bool x.2.1.2.2.2.2.2.1), .val (.string x.2.1.2.2.2.2.2.2.1)], .cells 56 [.val (.bool x.2.2.1.1), .val (.slice none 0 0), .val (.int .i64 x.2.2.1.2.2.1), .val (.bool x.2.2.1.2.2.2.1), .own 2, .val (.bool x.2.2.1.2.2.2.2.2.1), .val (.string x.2.2.1.2.2.2.2.2.2.1)], .row .i64 3 r]⟩
def signetref2_Read_d2 := (dQS (dCons (dSl 0 (dVC (dCO dS))) (dCons (dSl 2 (dVC (dCO (dH 0 0)))) (dCons (dSl 4 (dVC (dCO (dH 1 0)))) (dCons (dSl 5 (dVC (dCO (dI .i64)))) (dCons (dSl 7 (dVC (dCO dS))) dNil))))) (dCons (dCells 56 (dCons dB (dCons dNS (dCons (dI .i64) (dCons dB (dCons dNS (dCons dB (dCons dS dNil)))))))) (dCons (dCells 56 (dCons dB (dCons dNS (dCons (dI .i64) (dCons dB (dCons dNS (dCons dB (dCons dS dNil)))))))) dNil)))
noncomputable def signetref2_Read_l2 : SubQ := fun S R kn kx kr => (Dec.d signetref2_Read_d2 S).bind fun x => (signetref2_Read_p2 x.1.1 x.1.2.2.2.1).bind fun r => (Sum.elim (fun (r_0 : Bool × (List Int) × (List Int)) => kr ⟨[(2, [], .c (.o (.hd 0 0))), (3, [], .c (.o (.val (.bool r_0.1))))], [], [.cells 56 [.val (.bool x.2.2.1.1), .own 1, .val (.int .i64 x.2.2.1.2.2.1), .val (.bool x.2.2.1.2.2.2.1), .own 2, .val (.bool x.2.2.1.2.2.2.2.2.1), .val (.string x.2.2.1.2.2.2.2.2.2.1)], .row .i64 3 r_0.2.1, .row .i64 3 r_0.2.2]⟩) (fun (r_1 : Int × (List Int)) => kn ⟨[(0, [], .c (.o (.val (.string x.1.1)))), (2, [], .c (.o (.hd 0 0))), (4, [], .c (.o (.hd 1 0))), (5, [], .c (.o (.val (.int .i64 r_1.1)))), (7, [], .c (.o (.val (.string x.1.2.2.2.2.1))))], [], [.cells 56 [.val (.bool x.2.1.1), .val (.slice none 0 0), .val (.int .i64 x.2.1.2.2.1), .val (.bool x.2.1.2.2.2.1), .val (.slice none 0 0), .val (.bool x.2.1.2.2.2.2.2.1), .val (.string x.2.1.2.2.2.2.2.2.1)], .cells 56 [.val (.bool x.2.2.1.1), .val (.slice none 0 0), .val (.int .i64 x.2.2.1.2.2.1), .val (.bool x.2.2.1.2.2.2.1), .own 2, .val (.bool x.2.2.1.2.2.2.2.2.1), .val (.string x.2.2.1.2.2.2.2.2.2.1)], .row .i64 3 r_1.2]⟩)) r
def signetref2_Read_d5 := (dQS (dCons (dSl 2 (dVC (dCO (dH 0 0)))) (dCons (dSl 4 (dVC (dCO (dH 1 0)))) (dCons (dSl 7 (dVC (dCO dS))) (dCons (dSl 11 (dVC (dCO (dI .i64)))) dNil)))) (dCons (dCells 56 (dCons dB (dCons dNS (dCons (dI .i64) (dCons dB (dCons dNS (dCons dB (dCons dS dNil)))))))) (dCons (dCells 56 (dCons dB (dCons (dO 2) (dCons (dI .i64) (dCons dB (dCons (dO 3) (dCons dB (dCons dS dNil)))))))) (dCons (dRow .i64 3) (dCons (dRow .i64 3) dNil)))))
noncomputable def signetref2_Read_l5 : SubQ := fun S R kn kx kr => (Dec.d signetref2_Read_d5 S).bind fun x => (signetref2_Read_p5 x.1.2.2.1 x.1.2.2.2.1 x.2.2.1.2.2.1 x.2.2.2.1).bind fun r => kx 2 ⟨[(2, [], .c (.o (.hd 0 0))), (4, [], .c (.o (.hd 1 0)))], [], [.cells 56 [.val (.bool x.2.1.1), .val (.slice none 0 0), .val (.int .i64 x.2.1.2.2.1), .val (.bool x.2.1.2.2.2.1), .val (.slice none 0 0), .val (.bool x.2.1.2.2.2.2.2.1), .val (.string x.2.1.2.2.2.2.2.2.1)], .cells 56 [.val (.bool x.2.2.1.1), .own 2, .val (.int .i64 r.1), .val (.bool x.2.2.1.2.2.2.1), .own 3, .val (.bool x.2.2.1.2.2.2.2.2.1), .val (.string x.2.2.1.2.2.2.2.2.2.1)], .row .i64 3 r.2, .row .i64 3 x.2.2.2.2.1]⟩
def signetref2_Read_d6 := (dQS (dCons (dSl 2 (dVC (dCO (dH 0 0)))) (dCons (dSl 4 (dVC (dCO (dH 1 0)))) dNil)) (dCons (dCells 56 (dCons dB (dCons dNS (dCons (dI .i64) (dCons dB (dCons dNS (dCons dB (dCons dS dNil)))))))) (dCons (dCells 56 (dCons dB (dCons (dO 2) (dCons (dI .i64) (dCons dB (dCons (dO 3) (dCons dB (dCons dS dNil)))))))) (dCons (dRow .i64 3) (dCons (dRow .i64 3) dNil)))))
noncomputable def signetref2_Read_l6 : SubQ := fun S R kn kx kr => (Dec.d signetref2_Read_d6 S).bind fun x => (signetref2_Read_p6 x.2.2.2.1).bind fun r => kx 4 ⟨[(2, [], .c (.o (.hd 0 0))), (4, [], .c (.o (.hd 1 0)))], [], [.cells 56 [.val (.bool x.2.1.1), .val (.slice none 0 0), .val (.int .i64 x.2.1.2.2.1), .val (.bool x.2.1.2.2.2.1), .val (.slice none 0 0), .val (.bool x.2.1.2.2.2.2.2.1), .val (.string x.2.1.2.2.2.2.2.2.1)], .cells 56 [.val (.bool x.2.2.1.1), .own 2, .val (.int .i64 x.2.2.1.2.2.1), .val (.bool x.2.2.1.2.2.2.1), .own 3, .val (.bool x.2.2.1.2.2.2.2.2.1), .val (.string x.2.2.1.2.2.2.2.2.2.1)], .row .i64 3 r, .row .i64 3 x.2.2.2.2.1]⟩
def signetref2_Read_d4 := (dQS (dCons (dSl 0 (dVC (dCO dS))) (dCons (dSl 2 (dVC (dCO (dH 0 0)))) (dCons (dSl 4 (dVC (dCO (dH 1 0)))) (dCons (dSl 5 (dVC (dCO (dI .i64)))) (dCons (dSl 7 (dVC (dCO dS))) dNil))))) (dCons (dCells 56 (dCons dB (dCons dNS (dCons (dI .i64) (dCons dB (dCons dNS (dCons dB (dCons dS dNil)))))))) (dCons (dCells 56 (dCons dB (dCons dNS (dCons (dI .i64) (dCons dB (dCons (dO 2) (dCons dB (dCons dS dNil)))))))) (dCons (dRow .i64 3) dNil))))
noncomputable def signetref2_Read_l4 : SubQ := fun S R kn kx kr => (Dec.d signetref2_Read_d4 S).bind fun x => (signetref2_Read_p4 x.1.1 x.1.2.2.2.1 x.1.2.2.2.2.1 x.2.2.1.2.2.1).bind fun r => kr ⟨[(2, [], .c (.o (.hd 0 0))), (3, [], .c (.o (.val (.bool r.1))))], [], [.cells 56 [.val (.bool x.2.2.1.1), .own 1, .val (.int .i64 r.2.1), .val (.bool x.2.2.1.2.2.2.1), .own 2, .val (.bool x.2.2.1.2.2.2.2.2.1), .val (.string x.2.2.1.2.2.2.2.2.2.1)], .row .i64 3 r.2.2, .row .i64 3 x.2.2.2.1]⟩
def signetref2_Read_d1 := (dQS (dCons (dSl 0 (dVC (dCO dS))) (dCons (dSl 2 (dVC (dCO (dH 0 0)))) (dCons (dSl 4 (dVC (dCO (dH 1 0)))) (dCons (dSl 5 (dVC (dCO (dI .i64)))) (dCons (dSl 7 (dVC (dCO dS))) dNil))))) (dCons (dCells 56 (dCons dB (dCons dNS (dCons (dI .i64) (dCons dB (dCons dNS (dCons dB (dCons dS dNil)))))))) (dCons (dCells 56 (dCons dB (dCons dNS (dCons (dI .i64) (dCons dB (dCons dNS (dCons dB (dCons dS dNil)))))))) dNil)))
noncomputable def signetref2_Read_l1 : SubQ := fun S R kn kx kr => (Dec.d signetref2_Read_d1 S).bind fun x => (signetref2_Read_p1 x.1.1 x.1.2.2.2.1 x.1.2.2.2.2.1 x.2.2.1.2.2.1 x.2.2.1.2.2.2.1 x.2.2.1.2.2.2.2.2.1).bind fun r => kr ⟨[(2, [], .c (.o (.hd 0 0))), (3, [], .c (.o (.val (.bool r.1))))], [], [.cells 56 [.val (.bool x.2.2.1.1), .own 1, .val (.int .i64 r.2.1), .val (.bool r.2.2.1), .own 2, .val (.bool r.2.2.2.1), .val (.string x.2.2.1.2.2.2.2.2.2.1)], .row .i64 3 r.2.2.2.2.1, .row .i64 3 r.2.2.2.2.2]⟩
def signetref2_Read_d0 := (dQS (dCons (dSl 0 (dVC (dCO dS))) (dCons (dSl 2 (dVC (dCO (dH 0 0)))) (dCons (dSl 4 (dVC (dCO (dH 1 0)))) (dCons (dSl 5 (dVC (dCO (dI .i64)))) dNil)))) (dCons (dCells 56 (dCons dB (dCons dNS (dCons (dI .i64) (dCons dB (dCons dNS (dCons dB (dCons dS dNil)))))))) (dCons (dCells 56 (dCons dB (dCons dNS (dCons (dI .i64) (dCons dB (dCons dNS (dCons dB (dCons dS dNil)))))))) dNil)))
noncomputable def signetref2_Read_l0 : SubQ := fun S R kn kx kr => (Dec.d signetref2_Read_d0 S).bind fun x => (signetref2_Read_p0 x.1.1 x.1.2.2.2.1 x.2.2.1.2.2.1 x.2.2.1.2.2.2.1 x.2.2.1.2.2.2.2.2.1 x.2.2.1.2.2.2.2.2.2.1).bind fun r => kr ⟨[(2, [], .c (.o (.hd 0 0))), (3, [], .c (.o (.val (.bool r.1))))], [], [.cells 56 [.val (.bool x.2.2.1.1), .own 1, .val (.int .i64 r.2.1), .val (.bool r.2.2.1), .own 2, .val (.bool r.2.2.2.1), .val (.string r.2.2.2.2.1)], .row .i64 3 r.2.2.2.2.2.1, .row .i64 3 r.2.2.2.2.2.2]⟩
noncomputable def signetref2_Read_L : Nat → SubQ := tblL [(3, signetref2_Read_l3), (2, signetref2_Read_l2), (5, signetref2_Read_l5), (6, signetref2_Read_l6), (4, signetref2_Read_l4), (1, signetref2_Read_l1), (0, signetref2_Read_l0)]
theorem signetref2_Read_p3_eq (s : ByteArray) (all : ByteArray) (k_ : Int) (i : Int) (res_Minus : Bool) (res_Off : Int) (res_Down : Bool) (res_Plain : Bool) (res_Text : ByteArray) (n_Minus : Bool) (n_Off : Int) (n_Down : Bool) (n_Plain : Bool) (n_Text : ByteArray) (n_Exp : List Int) (R : Type) (kn : QS → Option R) (kx : Nat → QS → Option R) (kr : QS → Option R) :
    interpQ signetref2_Read_L signetref2_Read_G 0 13 222 signetref2_Read_b3 ⟨[(0, [], .c (.o (.val (.string s)))), (2, [], .c (.o (.hd 0 0))), (4, [], .c (.o (.hd 1 0))), (7, [], .c (.o (.val (.string all)))), (9, [], .c (.o (.val (.int .i64 k_)))), (10, [], .c (.o (.val (.int .i64 i))))], [], [.cells 56 [.val (.bool res_Minus), .val (.slice none 0 0), .val (.int .i64 res_Off), .val (.bool res_Down), .val (.slice none 0 0), .val (.bool res_Plain), .val (.string res_Text)], .cells 56 [.val (.bool n_Minus), .val (.slice none 0 0), .val (.int .i64 n_Off), .val (.bool n_Down), .own 2, .val (.bool n_Plain), .val (.string n_Text)], .row .i64 3 n_Exp]⟩ kn kx kr = (signetref2_Read_p3 s k_ i n_Exp).bind fun r => kx 0 ⟨[(0, [], .c (.o (.val (.string s)))), (2, [], .c (.o (.hd 0 0))), (4, [], .c (.o (.hd 1 0))), (7, [], .c (.o (.val (.string all)))), (9, [], .c (.o (.val (.int .i64 k_))))], [], [.cells 56 [.val (.bool res_Minus), .val (.slice none 0 0), .val (.int .i64 res_Off), .val (.bool res_Down), .val (.slice none 0 0), .val (.bool res_Plain), .val (.string res_Text)], .cells 56 [.val (.bool n_Minus), .val (.slice none 0 0), .val (.int .i64 n_Off), .val (.bool n_Down), .own 2, .val (.bool n_Plain), .val (.string n_Text)], .row .i64 3 r]⟩ := by
  refine loop_piece (step := fun x => signetref2_Read_p3_step s k_ x.1 x.2) (enc := fun x => ⟨[(0, [], .c (.o (.val (.string s)))), (2, [], .c (.o (.hd 0 0))), (4, [], .c (.o (.hd 1 0))), (7, [], .c (.o (.val (.string all)))), (9, [], .c (.o (.val (.int .i64 k_)))), (10, [], .c (.o (.val (.int .i64 x.1))))], [], [.cells 56 [.val (.bool res_Minus), .val (.slice none 0 0), .val (.int .i64 res_Off), .val (.bool res_Down), .val (.slice none 0 0), .val (.bool res_Plain), .val (.string res_Text)], .cells 56 [.val (.bool n_Minus), .val (.slice none 0 0), .val (.int .i64 n_Off), .val (.bool n_Down), .own 2, .val (.bool n_Plain), .val (.string n_Text)], .row .i64 3 x.2]⟩) (ko := fun r => kx 0 ⟨[(0, [], .c (.o (.val (.string s)))), (2, [], .c (.o (.hd 0 0))), (4, [], .c (.o (.hd 1 0))), (7, [], .c (.o (.val (.string all)))), (9, [], .c (.o (.val (.int .i64 k_))))], [], [.cells 56 [.val (.bool res_Minus), .val (.slice none 0 0), .val (.int .i64 res_Off), .val (.bool res_Down), .val (.slice none 0 0), .val (.bool res_Plain), .val (.string res_Text)], .cells 56 [.val (.bool n_Minus), .val (.slice none 0 0), .val (.int .i64 n_Off), .val (.bool n_Down), .own 2, .val (.bool n_Plain), .val (.string n_Text)], .row .i64 3 r]⟩) ?_ ?_ (i, n_Exp)
  · intro x; kernel_rfl
  · intro x ki; simp only [signetref2_Read_p3_step, -eq_self, bind_cond, bind_gd, Option.bind_assoc, Option.bind_some, Sum.elim_inl, Sum.elim_inr, bind_elim]; kernel_rfl
theorem signetref2_Read_sub3 : SubOK signetref2_Read_L signetref2_Read_G 0 13 222 3 signetref2_Read_b3 := sub_ok' signetref2_Read_d3 (fun x R kn kx kr => (signetref2_Read_p3 x.1.1 x.1.2.2.2.2.1 x.1.2.2.2.2.2.1 x.2.2.2.1).bind fun r => kx 0 ⟨[(0, [], .c (.o (.val (.string x.1.1)))), (2, [], .c (.o (.hd 0 0))), (4, [], .c (.o (.hd 1 0))), (7, [], .c (.o (.val (.string x.1.2.2.2.1)))), (9, [], .c (.o (.val (.int .i64 x.1.2.2.2.2.1))))], [], [.cells 56 [.val (.bool x.2.1.1), .val (.slice none 0 0), .val (.int .i64 x.2.1.2.2.1), .val (.bool x.2.1.2.2.2.1), .val (.slice none 0 0), .val (.bool x.2.1.2.2.2.2.2.1), .val (.string x.2.1.2.2.2.2.2.2.1)], .cells 56 [.val (.bool x.2.2.1.1), .val (.slice none 0 0), .val (.int .i64 x.2.2.1.2.2.1), .val (.bool x.2.2.1.2.2.2.1), .own 2, .val (.bool x.2.2.1.2.2.2.2.2.1), .val (.string x.2.2.1.2.2.2.2.2.2.1)], .row .i64 3 r]⟩) (by kernel_rfl) fun x R kn kx kr => signetref2_Read_p3_eq x.1.1 x.1.2.2.2.1 x.1.2.2.2.2.1 x.1.2.2.2.2.2.1 x.2.1.1 x.2.1.2.2.1 x.2.1.2.2.2.1 x.2.1.2.2.2.2.2.1 x.2.1.2.2.2.2.2.2.1 x.2.2.1.1 x.2.2.1.2.2.1 x.2.2.1.2.2.2.1 x.2.2.1.2.2.2.2.2.1 x.2.2.1.2.2.2.2.2.2.1 x.2.2.2.1 R kn kx kr
theorem signetref2_Read_p2_eq (s : ByteArray) (at_ : Int) (all : ByteArray) (res_Minus : Bool) (res_Off : Int) (res_Down : Bool) (res_Plain : Bool) (res_Text : ByteArray) (n_Minus : Bool) (n_Off : Int) (n_Down : Bool) (n_Plain : Bool) (n_Text : ByteArray) (R : Type) (kn : QS → Option R) (kx : Nat → QS → Option R) (kr : QS → Option R) :
    interpQ signetref2_Read_L signetref2_Read_G 0 13 222 signetref2_Read_b2 ⟨[(0, [], .c (.o (.val (.string s)))), (2, [], .c (.o (.hd 0 0))), (4, [], .c (.o (.hd 1 0))), (5, [], .c (.o (.val (.int .i64 at_)))), (7, [], .c (.o (.val (.string all))))], [], [.cells 56 [.val (.bool res_Minus), .val (.slice none 0 0), .val (.int .i64 res_Off), .val (.bool res_Down), .val (.slice none 0 0), .val (.bool res_Plain), .val (.string res_Text)], .cells 56 [.val (.bool n_Minus), .val (.slice none 0 0), .val (.int .i64 n_Off), .val (.bool n_Down), .val (.slice none 0 0), .val (.bool n_Plain), .val (.string n_Text)]]⟩ kn kx kr = (signetref2_Read_p2 s at_).bind fun r => (Sum.elim (fun (r_0 : Bool × (List Int) × (List Int)) => kr ⟨[(2, [], .c (.o (.hd 0 0))), (3, [], .c (.o (.val (.bool r_0.1))))], [], [.cells 56 [.val (.bool n_Minus), .own 1, .val (.int .i64 n_Off), .val (.bool n_Down), .own 2, .val (.bool n_Plain), .val (.string n_Text)], .row .i64 3 r_0.2.1, .row .i64 3 r_0.2.2]⟩) (fun (r_1 : Int × (List Int)) => kn ⟨[(0, [], .c (.o (.val (.string s)))), (2, [], .c (.o (.hd 0 0))), (4, [], .c (.o (.hd 1 0))), (5, [], .c (.o (.val (.int .i64 r_1.1)))), (7, [], .c (.o (.val (.string all))))], [], [.cells 56 [.val (.bool res_Minus), .val (.slice none 0 0), .val (.int .i64 res_Off), .val (.bool res_Down), .val (.slice none 0 0), .val (.bool res_Plain), .val (.string res_Text)], .cells 56 [.val (.bool n_Minus), .val (.slice none 0 0), .val (.int .i64 n_Off), .val (.bool n_Down), .own 2, .val (.bool n_Plain), .val (.string n_Text)], .row .i64 3 r_1.2]⟩)) r := by
  simp only [signetref2_Read_p2, -eq_self, bind_cond, bind_gd, Option.bind_assoc, Option.bind_some, Sum.elim_inl, Sum.elim_inr, bind_elim]
  kernel_rfl
theorem signetref2_Read_sub2 : SubOK signetref2_Read_L signetref2_Read_G 0 13 222 2 signetref2_Read_b2 := sub_ok' signetref2_Read_d2 (fun x R kn kx kr => (signetref2_Read_p2 x.1.1 x.1.2.2.2.1).bind fun r => (Sum.elim (fun (r_0 : Bool × (List Int) × (List Int)) => kr ⟨[(2, [], .c (.o (.hd 0 0))), (3, [], .c (.o (.val (.bool r_0.1))))], [], [.cells 56 [.val (.bool x.2.2.1.1), .own 1, .val (.int .i64 x.2.2.1.2.2.1), .val (.bool x.2.2.1.2.2.2.1), .own 2, .val (.bool x.2.2.1.2.2.2.2.2.1), .val (.string x.2.2.1.2.2.2.2.2.2.1)], .row .i64 3 r_0.2.1, .row .i64 3 r_0.2.2]⟩) (fun (r_1 : Int × (List Int)) => kn ⟨[(0, [], .c (.o (.val (.string x.1.1)))), (2, [], .c (.o (.hd 0 0))), (4, [], .c (.o (.hd 1 0))), (5, [], .c (.o (.val (.int .i64 r_1.1)))), (7, [], .c (.o (.val (.string x.1.2.2.2.2.1))))], [], [.cells 56 [.val (.bool x.2.1.1), .val (.slice none 0 0), .val (.int .i64 x.2.1.2.2.1), .val (.bool x.2.1.2.2.2.1), .val (.slice none 0 0), .val (.bool x.2.1.2.2.2.2.2.1), .val (.string x.2.1.2.2.2.2.2.2.1)], .cells 56 [.val (.bool x.2.2.1.1), .val (.slice none 0 0), .val (.int .i64 x.2.2.1.2.2.1), .val (.bool x.2.2.1.2.2.2.1), .own 2, .val (.bool x.2.2.1.2.2.2.2.2.1), .val (.string x.2.2.1.2.2.2.2.2.2.1)], .row .i64 3 r_1.2]⟩)) r) (by kernel_rfl) fun x R kn kx kr => signetref2_Read_p2_eq x.1.1 x.1.2.2.2.1 x.1.2.2.2.2.1 x.2.1.1 x.2.1.2.2.1 x.2.1.2.2.2.1 x.2.1.2.2.2.2.2.1 x.2.1.2.2.2.2.2.2.1 x.2.2.1.1 x.2.2.1.2.2.1 x.2.2.1.2.2.2.1 x.2.2.1.2.2.2.2.2.1 x.2.2.1.2.2.2.2.2.2.1 R kn kx kr
theorem signetref2_Read_p5_eq (all : ByteArray) (i : Int) (res_Minus : Bool) (res_Off : Int) (res_Down : Bool) (res_Plain : Bool) (res_Text : ByteArray) (n_Minus : Bool) (n_Off : Int) (n_Down : Bool) (n_Plain : Bool) (n_Text : ByteArray) (n_Digits : List Int) (n_Exp : List Int) (R : Type) (kn : QS → Option R) (kx : Nat → QS → Option R) (kr : QS → Option R) :
    interpQ signetref2_Read_L signetref2_Read_G 0 13 222 signetref2_Read_b5 ⟨[(2, [], .c (.o (.hd 0 0))), (4, [], .c (.o (.hd 1 0))), (7, [], .c (.o (.val (.string all)))), (11, [], .c (.o (.val (.int .i64 i))))], [], [.cells 56 [.val (.bool res_Minus), .val (.slice none 0 0), .val (.int .i64 res_Off), .val (.bool res_Down), .val (.slice none 0 0), .val (.bool res_Plain), .val (.string res_Text)], .cells 56 [.val (.bool n_Minus), .own 2, .val (.int .i64 n_Off), .val (.bool n_Down), .own 3, .val (.bool n_Plain), .val (.string n_Text)], .row .i64 3 n_Digits, .row .i64 3 n_Exp]⟩ kn kx kr = (signetref2_Read_p5 all i n_Off n_Digits).bind fun r => kx 2 ⟨[(2, [], .c (.o (.hd 0 0))), (4, [], .c (.o (.hd 1 0)))], [], [.cells 56 [.val (.bool res_Minus), .val (.slice none 0 0), .val (.int .i64 res_Off), .val (.bool res_Down), .val (.slice none 0 0), .val (.bool res_Plain), .val (.string res_Text)], .cells 56 [.val (.bool n_Minus), .own 2, .val (.int .i64 r.1), .val (.bool n_Down), .own 3, .val (.bool n_Plain), .val (.string n_Text)], .row .i64 3 r.2, .row .i64 3 n_Exp]⟩ := by
  refine loop_piece (step := fun x => signetref2_Read_p5_step all x.1 x.2.1 x.2.2) (enc := fun x => ⟨[(2, [], .c (.o (.hd 0 0))), (4, [], .c (.o (.hd 1 0))), (7, [], .c (.o (.val (.string all)))), (11, [], .c (.o (.val (.int .i64 x.1))))], [], [.cells 56 [.val (.bool res_Minus), .val (.slice none 0 0), .val (.int .i64 res_Off), .val (.bool res_Down), .val (.slice none 0 0), .val (.bool res_Plain), .val (.string res_Text)], .cells 56 [.val (.bool n_Minus), .own 2, .val (.int .i64 x.2.1), .val (.bool n_Down), .own 3, .val (.bool n_Plain), .val (.string n_Text)], .row .i64 3 x.2.2, .row .i64 3 n_Exp]⟩) (ko := fun r => kx 2 ⟨[(2, [], .c (.o (.hd 0 0))), (4, [], .c (.o (.hd 1 0)))], [], [.cells 56 [.val (.bool res_Minus), .val (.slice none 0 0), .val (.int .i64 res_Off), .val (.bool res_Down), .val (.slice none 0 0), .val (.bool res_Plain), .val (.string res_Text)], .cells 56 [.val (.bool n_Minus), .own 2, .val (.int .i64 r.1), .val (.bool n_Down), .own 3, .val (.bool n_Plain), .val (.string n_Text)], .row .i64 3 r.2, .row .i64 3 n_Exp]⟩) ?_ ?_ (i, n_Off, n_Digits)
  · intro x; kernel_rfl
  · intro x ki; simp only [signetref2_Read_p5_step, -eq_self, bind_cond, bind_gd, Option.bind_assoc, Option.bind_some, Sum.elim_inl, Sum.elim_inr, bind_elim]; kernel_rfl
theorem signetref2_Read_sub5 : SubOK signetref2_Read_L signetref2_Read_G 0 13 222 5 signetref2_Read_b5 := sub_ok' signetref2_Read_d5 (fun x R kn kx kr => (signetref2_Read_p5 x.1.2.2.1 x.1.2.2.2.1 x.2.2.1.2.2.1 x.2.2.2.1).bind fun r => kx 2 ⟨[(2, [], .c (.o (.hd 0 0))), (4, [], .c (.o (.hd 1 0)))], [], [.cells 56 [.val (.bool x.2.1.1), .val (.slice none 0 0), .val (.int .i64 x.2.1.2.2.1), .val (.bool x.2.1.2.2.2.1), .val (.slice none 0 0), .val (.bool x.2.1.2.2.2.2.2.1), .val (.string x.2.1.2.2.2.2.2.2.1)], .cells 56 [.val (.bool x.2.2.1.1), .own 2, .val (.int .i64 r.1), .val (.bool x.2.2.1.2.2.2.1), .own 3, .val (.bool x.2.2.1.2.2.2.2.2.1), .val (.string x.2.2.1.2.2.2.2.2.2.1)], .row .i64 3 r.2, .row .i64 3 x.2.2.2.2.1]⟩) (by kernel_rfl) fun x R kn kx kr => signetref2_Read_p5_eq x.1.2.2.1 x.1.2.2.2.1 x.2.1.1 x.2.1.2.2.1 x.2.1.2.2.2.1 x.2.1.2.2.2.2.2.1 x.2.1.2.2.2.2.2.2.1 x.2.2.1.1 x.2.2.1.2.2.1 x.2.2.1.2.2.2.1 x.2.2.1.2.2.2.2.2.1 x.2.2.1.2.2.2.2.2.2.1 x.2.2.2.1 x.2.2.2.2.1 R kn kx kr
theorem signetref2_Read_p6_eq (res_Minus : Bool) (res_Off : Int) (res_Down : Bool) (res_Plain : Bool) (res_Text : ByteArray) (n_Minus : Bool) (n_Off : Int) (n_Down : Bool) (n_Plain : Bool) (n_Text : ByteArray) (n_Digits : List Int) (n_Exp : List Int) (R : Type) (kn : QS → Option R) (kx : Nat → QS → Option R) (kr : QS → Option R) :
    interpQ signetref2_Read_L signetref2_Read_G 0 13 222 signetref2_Read_b6 ⟨[(2, [], .c (.o (.hd 0 0))), (4, [], .c (.o (.hd 1 0)))], [], [.cells 56 [.val (.bool res_Minus), .val (.slice none 0 0), .val (.int .i64 res_Off), .val (.bool res_Down), .val (.slice none 0 0), .val (.bool res_Plain), .val (.string res_Text)], .cells 56 [.val (.bool n_Minus), .own 2, .val (.int .i64 n_Off), .val (.bool n_Down), .own 3, .val (.bool n_Plain), .val (.string n_Text)], .row .i64 3 n_Digits, .row .i64 3 n_Exp]⟩ kn kx kr = (signetref2_Read_p6 n_Digits).bind fun r => kx 4 ⟨[(2, [], .c (.o (.hd 0 0))), (4, [], .c (.o (.hd 1 0)))], [], [.cells 56 [.val (.bool res_Minus), .val (.slice none 0 0), .val (.int .i64 res_Off), .val (.bool res_Down), .val (.slice none 0 0), .val (.bool res_Plain), .val (.string res_Text)], .cells 56 [.val (.bool n_Minus), .own 2, .val (.int .i64 n_Off), .val (.bool n_Down), .own 3, .val (.bool n_Plain), .val (.string n_Text)], .row .i64 3 r, .row .i64 3 n_Exp]⟩ := by
  refine loop_piece (step := fun x => signetref2_Read_p6_step x) (enc := fun x => ⟨[(2, [], .c (.o (.hd 0 0))), (4, [], .c (.o (.hd 1 0)))], [], [.cells 56 [.val (.bool res_Minus), .val (.slice none 0 0), .val (.int .i64 res_Off), .val (.bool res_Down), .val (.slice none 0 0), .val (.bool res_Plain), .val (.string res_Text)], .cells 56 [.val (.bool n_Minus), .own 2, .val (.int .i64 n_Off), .val (.bool n_Down), .own 3, .val (.bool n_Plain), .val (.string n_Text)], .row .i64 3 x, .row .i64 3 n_Exp]⟩) (ko := fun r => kx 4 ⟨[(2, [], .c (.o (.hd 0 0))), (4, [], .c (.o (.hd 1 0)))], [], [.cells 56 [.val (.bool res_Minus), .val (.slice none 0 0), .val (.int .i64 res_Off), .val (.bool res_Down), .val (.slice none 0 0), .val (.bool res_Plain), .val (.string res_Text)], .cells 56 [.val (.bool n_Minus), .own 2, .val (.int .i64 n_Off), .val (.bool n_Down), .own 3, .val (.bool n_Plain), .val (.string n_Text)], .row .i64 3 r, .row .i64 3 n_Exp]⟩) ?_ ?_ n_Digits
  · intro x; kernel_rfl
  · intro x ki; simp only [signetref2_Read_p6_step, -eq_self, bind_cond, bind_gd, Option.bind_assoc, Option.bind_some, Sum.elim_inl, Sum.elim_inr, bind_elim]; kernel_rfl
theorem signetref2_Read_sub6 : SubOK signetref2_Read_L signetref2_Read_G 0 13 222 6 signetref2_Read_b6 := sub_ok' signetref2_Read_d6 (fun x R kn kx kr => (signetref2_Read_p6 x.2.2.2.1).bind fun r => kx 4 ⟨[(2, [], .c (.o (.hd 0 0))), (4, [], .c (.o (.hd 1 0)))], [], [.cells 56 [.val (.bool x.2.1.1), .val (.slice none 0 0), .val (.int .i64 x.2.1.2.2.1), .val (.bool x.2.1.2.2.2.1), .val (.slice none 0 0), .val (.bool x.2.1.2.2.2.2.2.1), .val (.string x.2.1.2.2.2.2.2.2.1)], .cells 56 [.val (.bool x.2.2.1.1), .own 2, .val (.int .i64 x.2.2.1.2.2.1), .val (.bool x.2.2.1.2.2.2.1), .own 3, .val (.bool x.2.2.1.2.2.2.2.2.1), .val (.string x.2.2.1.2.2.2.2.2.2.1)], .row .i64 3 r, .row .i64 3 x.2.2.2.2.1]⟩) (by kernel_rfl) fun x R kn kx kr => signetref2_Read_p6_eq x.2.1.1 x.2.1.2.2.1 x.2.1.2.2.2.1 x.2.1.2.2.2.2.2.1 x.2.1.2.2.2.2.2.2.1 x.2.2.1.1 x.2.2.1.2.2.1 x.2.2.1.2.2.2.1 x.2.2.1.2.2.2.2.2.1 x.2.2.1.2.2.2.2.2.2.1 x.2.2.2.1 x.2.2.2.2.1 R kn kx kr
theorem signetref2_Read_p4_eq (s : ByteArray) (at_ : Int) (all : ByteArray) (res_Minus : Bool) (res_Off : Int) (res_Down : Bool) (res_Plain : Bool) (res_Text : ByteArray) (n_Minus : Bool) (n_Off : Int) (n_Down : Bool) (n_Plain : Bool) (n_Text : ByteArray) (n_Exp : List Int) (R : Type) (kn : QS → Option R) (kx : Nat → QS → Option R) (kr : QS → Option R) :
    interpQ signetref2_Read_L signetref2_Read_G 0 13 222 signetref2_Read_b4 ⟨[(0, [], .c (.o (.val (.string s)))), (2, [], .c (.o (.hd 0 0))), (4, [], .c (.o (.hd 1 0))), (5, [], .c (.o (.val (.int .i64 at_)))), (7, [], .c (.o (.val (.string all))))], [], [.cells 56 [.val (.bool res_Minus), .val (.slice none 0 0), .val (.int .i64 res_Off), .val (.bool res_Down), .val (.slice none 0 0), .val (.bool res_Plain), .val (.string res_Text)], .cells 56 [.val (.bool n_Minus), .val (.slice none 0 0), .val (.int .i64 n_Off), .val (.bool n_Down), .own 2, .val (.bool n_Plain), .val (.string n_Text)], .row .i64 3 n_Exp]⟩ kn kx kr = (signetref2_Read_p4 s at_ all n_Off).bind fun r => kr ⟨[(2, [], .c (.o (.hd 0 0))), (3, [], .c (.o (.val (.bool r.1))))], [], [.cells 56 [.val (.bool n_Minus), .own 1, .val (.int .i64 r.2.1), .val (.bool n_Down), .own 2, .val (.bool n_Plain), .val (.string n_Text)], .row .i64 3 r.2.2, .row .i64 3 n_Exp]⟩ := by
  simp only [signetref2_Read_p4, -eq_self, bind_cond, bind_gd, Option.bind_assoc, Option.bind_some, Sum.elim_inl, Sum.elim_inr, bind_elim]
  kernel_rfl
theorem signetref2_Read_sub4 : SubOK signetref2_Read_L signetref2_Read_G 0 13 222 4 signetref2_Read_b4 := sub_ok' signetref2_Read_d4 (fun x R kn kx kr => (signetref2_Read_p4 x.1.1 x.1.2.2.2.1 x.1.2.2.2.2.1 x.2.2.1.2.2.1).bind fun r => kr ⟨[(2, [], .c (.o (.hd 0 0))), (3, [], .c (.o (.val (.bool r.1))))], [], [.cells 56 [.val (.bool x.2.2.1.1), .own 1, .val (.int .i64 r.2.1), .val (.bool x.2.2.1.2.2.2.1), .own 2, .val (.bool x.2.2.1.2.2.2.2.2.1), .val (.string x.2.2.1.2.2.2.2.2.2.1)], .row .i64 3 r.2.2, .row .i64 3 x.2.2.2.1]⟩) (by kernel_rfl) fun x R kn kx kr => signetref2_Read_p4_eq x.1.1 x.1.2.2.2.1 x.1.2.2.2.2.1 x.2.1.1 x.2.1.2.2.1 x.2.1.2.2.2.1 x.2.1.2.2.2.2.2.1 x.2.1.2.2.2.2.2.2.1 x.2.2.1.1 x.2.2.1.2.2.1 x.2.2.1.2.2.2.1 x.2.2.1.2.2.2.2.2.1 x.2.2.1.2.2.2.2.2.2.1 x.2.2.2.1 R kn kx kr
theorem signetref2_Read_p1_eq (s : ByteArray) (at_ : Int) (all : ByteArray) (res_Minus : Bool) (res_Off : Int) (res_Down : Bool) (res_Plain : Bool) (res_Text : ByteArray) (n_Minus : Bool) (n_Off : Int) (n_Down : Bool) (n_Plain : Bool) (n_Text : ByteArray) (R : Type) (kn : QS → Option R) (kx : Nat → QS → Option R) (kr : QS → Option R) :
    interpQ signetref2_Read_L signetref2_Read_G 0 13 222 signetref2_Read_b1 ⟨[(0, [], .c (.o (.val (.string s)))), (2, [], .c (.o (.hd 0 0))), (4, [], .c (.o (.hd 1 0))), (5, [], .c (.o (.val (.int .i64 at_)))), (7, [], .c (.o (.val (.string all))))], [], [.cells 56 [.val (.bool res_Minus), .val (.slice none 0 0), .val (.int .i64 res_Off), .val (.bool res_Down), .val (.slice none 0 0), .val (.bool res_Plain), .val (.string res_Text)], .cells 56 [.val (.bool n_Minus), .val (.slice none 0 0), .val (.int .i64 n_Off), .val (.bool n_Down), .val (.slice none 0 0), .val (.bool n_Plain), .val (.string n_Text)]]⟩ kn kx kr = (signetref2_Read_p1 s at_ all n_Off n_Down n_Plain).bind fun r => kr ⟨[(2, [], .c (.o (.hd 0 0))), (3, [], .c (.o (.val (.bool r.1))))], [], [.cells 56 [.val (.bool n_Minus), .own 1, .val (.int .i64 r.2.1), .val (.bool r.2.2.1), .own 2, .val (.bool r.2.2.2.1), .val (.string n_Text)], .row .i64 3 r.2.2.2.2.1, .row .i64 3 r.2.2.2.2.2]⟩ := by
  simp only [signetref2_Read_p1, -eq_self, bind_cond, bind_gd, Option.bind_assoc, Option.bind_some, Sum.elim_inl, Sum.elim_inr, bind_elim]
  kernel_rfl
theorem signetref2_Read_sub1 : SubOK signetref2_Read_L signetref2_Read_G 0 13 222 1 signetref2_Read_b1 := sub_ok' signetref2_Read_d1 (fun x R kn kx kr => (signetref2_Read_p1 x.1.1 x.1.2.2.2.1 x.1.2.2.2.2.1 x.2.2.1.2.2.1 x.2.2.1.2.2.2.1 x.2.2.1.2.2.2.2.2.1).bind fun r => kr ⟨[(2, [], .c (.o (.hd 0 0))), (3, [], .c (.o (.val (.bool r.1))))], [], [.cells 56 [.val (.bool x.2.2.1.1), .own 1, .val (.int .i64 r.2.1), .val (.bool r.2.2.1), .own 2, .val (.bool r.2.2.2.1), .val (.string x.2.2.1.2.2.2.2.2.2.1)], .row .i64 3 r.2.2.2.2.1, .row .i64 3 r.2.2.2.2.2]⟩) (by kernel_rfl) fun x R kn kx kr => signetref2_Read_p1_eq x.1.1 x.1.2.2.2.1 x.1.2.2.2.2.1 x.2.1.1 x.2.1.2.2.1 x.2.1.2.2.2.1 x.2.1.2.2.2.2.2.1 x.2.1.2.2.2.2.2.2.1 x.2.2.1.1 x.2.2.1.2.2.1 x.2.2.1.2.2.2.1 x.2.2.1.2.2.2.2.2.1 x.2.2.1.2.2.2.2.2.2.1 R kn kx kr
theorem signetref2_Read_p0_eq (s : ByteArray) (at_ : Int) (res_Minus : Bool) (res_Off : Int) (res_Down : Bool) (res_Plain : Bool) (res_Text : ByteArray) (n_Minus : Bool) (n_Off : Int) (n_Down : Bool) (n_Plain : Bool) (n_Text : ByteArray) (R : Type) (kn : QS → Option R) (kx : Nat → QS → Option R) (kr : QS → Option R) :
    interpQ signetref2_Read_L signetref2_Read_G 0 13 222 signetref2_Read_b0 ⟨[(0, [], .c (.o (.val (.string s)))), (2, [], .c (.o (.hd 0 0))), (4, [], .c (.o (.hd 1 0))), (5, [], .c (.o (.val (.int .i64 at_))))], [], [.cells 56 [.val (.bool res_Minus), .val (.slice none 0 0), .val (.int .i64 res_Off), .val (.bool res_Down), .val (.slice none 0 0), .val (.bool res_Plain), .val (.string res_Text)], .cells 56 [.val (.bool n_Minus), .val (.slice none 0 0), .val (.int .i64 n_Off), .val (.bool n_Down), .val (.slice none 0 0), .val (.bool n_Plain), .val (.string n_Text)]]⟩ kn kx kr = (signetref2_Read_p0 s at_ n_Off n_Down n_Plain n_Text).bind fun r => kr ⟨[(2, [], .c (.o (.hd 0 0))), (3, [], .c (.o (.val (.bool r.1))))], [], [.cells 56 [.val (.bool n_Minus), .own 1, .val (.int .i64 r.2.1), .val (.bool r.2.2.1), .own 2, .val (.bool r.2.2.2.1), .val (.string r.2.2.2.2.1)], .row .i64 3 r.2.2.2.2.2.1, .row .i64 3 r.2.2.2.2.2.2]⟩ := by
  simp only [signetref2_Read_p0, -eq_self, bind_cond, bind_gd, Option.bind_assoc, Option.bind_some, Sum.elim_inl, Sum.elim_inr, bind_elim]
  kernel_rfl
theorem signetref2_Read_sub0 : SubOK signetref2_Read_L signetref2_Read_G 0 13 222 0 signetref2_Read_b0 := sub_ok' signetref2_Read_d0 (fun x R kn kx kr => (signetref2_Read_p0 x.1.1 x.1.2.2.2.1 x.2.2.1.2.2.1 x.2.2.1.2.2.2.1 x.2.2.1.2.2.2.2.2.1 x.2.2.1.2.2.2.2.2.2.1).bind fun r => kr ⟨[(2, [], .c (.o (.hd 0 0))), (3, [], .c (.o (.val (.bool r.1))))], [], [.cells 56 [.val (.bool x.2.2.1.1), .own 1, .val (.int .i64 r.2.1), .val (.bool r.2.2.1), .own 2, .val (.bool r.2.2.2.1), .val (.string r.2.2.2.2.1)], .row .i64 3 r.2.2.2.2.2.1, .row .i64 3 r.2.2.2.2.2.2]⟩) (by kernel_rfl) fun x R kn kx kr => signetref2_Read_p0_eq x.1.1 x.1.2.2.2.1 x.2.1.1 x.2.1.2.2.1 x.2.1.2.2.2.1 x.2.1.2.2.2.2.2.1 x.2.1.2.2.2.2.2.2.1 x.2.2.1.1 x.2.2.1.2.2.1 x.2.2.1.2.2.2.1 x.2.2.1.2.2.2.2.2.1 x.2.2.1.2.2.2.2.2.2.1 R kn kx kr
theorem signetref2_Read_subs : subsOK signetref2_Read_L signetref2_Read_G 0 13 222 signetref2_Read_q := subs_of (show AllSub signetref2_Read_L signetref2_Read_G 0 13 222 [(0, signetref2_Read_b0), (1, signetref2_Read_b1), (2, signetref2_Read_b2), (3, signetref2_Read_b3), (4, signetref2_Read_b4), (5, signetref2_Read_b5), (6, signetref2_Read_b6)] from ⟨signetref2_Read_sub0, signetref2_Read_sub1, signetref2_Read_sub2, signetref2_Read_sub3, signetref2_Read_sub4, signetref2_Read_sub5, signetref2_Read_sub6, trivial⟩)
theorem signetref2_Read_eq (s : ByteArray) (R : Type) (k : SV → List SB → Option R) :
    fnQ signetref2_Read_L signetref2_Read_G 13 222 signetref2_Read_q [.cell 2 (some 7), .tmp 3] [.c (.o (.val (.string s)))] [] k = (signetref2_Read_s s).bind fun r => k (.tup [.agg [.val (.bool r.1.minus), .own 0, .val (.int .i64 r.1.off), .val (.bool r.1.down), .own 1, .val (.bool r.1.plain), .val (.string r.1.text)], .o (.val (.bool r.2))]) [.row .i64 3 r.1.digits, .row .i64 3 r.1.exp_] := by
  simp only [signetref2_Read_s, -eq_self, bind_cond, bind_gd, Option.bind_assoc, Option.bind_some, Sum.elim_inl, Sum.elim_inr, bind_elim]
  kernel_rfl
def signetref2_Read_da := (dCons (dVC (dCO dS)) dNil)
def signetref2_Read_db := (dNil : Dec Unit (List SB))
noncomputable def signetref2_Read_c : CS := fun args hp R k => (Dec.d signetref2_Read_da args).bind fun x => (Dec.d signetref2_Read_db hp).bind fun y => (signetref2_Read_s x.1).bind fun r => k (.tup [.agg [.val (.bool r.1.minus), .own 0, .val (.int .i64 r.1.off), .val (.bool r.1.down), .own 1, .val (.bool r.1.plain), .val (.string r.1.text)], .o (.val (.bool r.2))]) [.row .i64 3 r.1.digits, .row .i64 3 r.1.exp_]
theorem signetref2_Read_val : ValidS Try.prog 29 signetref2_Read_c :=
  val_ok signetref2_Read_chk 13 signetref2_Read_Gok signetref2_Read_da signetref2_Read_db 0 (fun x y R k => (signetref2_Read_s x.1).bind fun r => k (.tup [.agg [.val (.bool r.1.minus), .own 0, .val (.int .i64 r.1.off), .val (.bool r.1.down), .own 1, .val (.bool r.1.plain), .val (.string r.1.text)], .o (.val (.bool r.2))]) [.row .i64 3 r.1.digits, .row .i64 3 r.1.exp_]) (by kernel_rfl)
    (fun x y R k => by simp only [Option.bind_assoc, Option.bind_some]) (fun x => Nat.le_of_ble_eq_true rfl) (fun y => rfl) signetref2_Read_subs fun x y => signetref2_Read_eq x.1 _ _
noncomputable def signetref2_Read_w : CQ := liftQ [] signetref2_Read_c
theorem signetref2_Read_ok : ValidQ Try.prog 29 signetref2_Read_w := liftQ_valid signetref2_Read_val

/-! ### signet/signetref2.Valid -/
def signetref2_Valid_q : IQ :=
  (.seq
  (.reg 2 none [
    ⟨(some 2), .mv (.v (.bool false)), none⟩])
  (.seq
  (.reg 4 none [
    ⟨(some 6), .mv (.t 0), none⟩,
    ⟨(some 7), .call 29 [(.t 6)], none⟩,
    ⟨(some 5), .mv (.t 7), none⟩,
    ⟨(some 8), .extract (.t 5) 0, none⟩,
    ⟨(some 9), .extract (.t 5) 1, none⟩,
    ⟨(some 3), .alloc 56 [.bool false, .slice none 0 0, .int .i64 0, .bool false, .slice none 0 0, .bool false, .string ⟨#[]⟩], none⟩,
    ⟨none, .store 7 (.t 3) (.t 8), none⟩,
    ⟨(some 4), .mv (.t 9), none⟩])
  (.seq
  (.reg 2 none [
    ⟨(some 10), .mv (.t 4), none⟩,
    ⟨(some 2), .mv (.t 10), none⟩])
  (.canon [] [2] .ret))))
theorem signetref2_Valid_chk : chk Try.prog 26 [] = some (signetref2_Valid_q.erase, [.tmp 2], 11) := by kernel_rfl
noncomputable def signetref2_Valid_s (text : ByteArray) : Option Bool :=
  (signetref2_Read_s text).bind fun r1 =>
  some r1.2
noncomputable def signetref2_Valid_G : Nat → Option CQ := tblQ [(29, signetref2_Read_w)]
theorem signetref2_Valid_Gok : ∀ f C, signetref2_Valid_G f = some C → ValidQ Try.prog f C := tblQ_valid ⟨signetref2_Read_ok, trivial⟩
noncomputable def signetref2_Valid_L : Nat → SubQ := tblL []
theorem signetref2_Valid_subs : subsOK signetref2_Valid_L signetref2_Valid_G 0 5 11 signetref2_Valid_q := subs_of (show AllSub signetref2_Valid_L signetref2_Valid_G 0 5 11 [] from trivial)
theorem signetref2_Valid_eq (text : ByteArray) (R : Type) (k : SV → List SB → Option R) :
    fnQ signetref2_Valid_L signetref2_Valid_G 5 11 signetref2_Valid_q [.tmp 2] [.c (.o (.val (.string text)))] [] k = (signetref2_Valid_s text).bind fun r => k (.c (.o (.val (.bool r)))) [] := by
  simp only [signetref2_Valid_s, -eq_self, bind_cond, bind_gd, Option.bind_assoc, Option.bind_some, Sum.elim_inl, Sum.elim_inr, bind_elim]
  kernel_rfl
def signetref2_Valid_da := (dCons (dVC (dCO dS)) dNil)
def signetref2_Valid_db := (dNil : Dec Unit (List SB))
noncomputable def signetref2_Valid_c : CS := fun args hp R k => (Dec.d signetref2_Valid_da args).bind fun x => (Dec.d signetref2_Valid_db hp).bind fun y => (signetref2_Valid_s x.1).bind fun r => k (.c (.o (.val (.bool r)))) []
theorem signetref2_Valid_val : ValidS Try.prog 26 signetref2_Valid_c :=
  val_ok signetref2_Valid_chk 5 signetref2_Valid_Gok signetref2_Valid_da signetref2_Valid_db 0 (fun x y R k => (signetref2_Valid_s x.1).bind fun r => k (.c (.o (.val (.bool r)))) []) (by kernel_rfl)
    (fun x y R k => by simp only [Option.bind_assoc, Option.bind_some]) (fun x => Nat.le_of_ble_eq_true rfl) (fun y => rfl) signetref2_Valid_subs fun x y => signetref2_Valid_eq x.1 _ _
noncomputable def signetref2_Valid_w : CQ := liftV [] signetref2_Valid_c
theorem signetref2_Valid_ok : ValidQ Try.prog 26 signetref2_Valid_w := liftV_valid signetref2_Valid_val

/-! ### signet/signetref2.Whole -/
def signetref2_Whole_b0 : IQ :=
  (.loop [4, 6, 7]
    (.seq
    (.seq
    (.reg 25 none [
      ⟨(some 21), .mv (.t 7), none⟩,
      ⟨(some 22), .faddr 6 (.t 4), none⟩,
      ⟨(some 23), .load none (.t 22), none⟩,
      ⟨(some 24), .lenS (.t 23), none⟩,
      ⟨(some 25), .bin false .lss (.t 21) (.t 24), none⟩])
    (.cond (.t 25)
      .skip
      (.canon [] [4, 6] (.exit 0))))
    (.seq
    (.block 1
      (.seq
      (.reg 8 none [
        ⟨(some 28), .faddr 6 (.t 4), none⟩,
        ⟨(some 29), .load none (.t 28), none⟩,
        ⟨(some 30), .mv (.t 7), none⟩,
        ⟨(some 31), .index (.t 29) (.t 30), none⟩,
        ⟨(some 32), .bin false .sub (.t 31) (.v (.int .u8 48)), none⟩,
        ⟨(some 33), .conv false .i64 (.t 32), none⟩,
        ⟨(some 8), .mv (.t 33), none⟩])
      (.seq
      (.seq
      (.reg 38 none [
        ⟨(some 34), .mv (.t 6), none⟩,
        ⟨(some 35), .mv (.t 8), none⟩,
        ⟨(some 36), .bin false .add (.v (.int .i64 (-9223372036854775808))) (.t 35), none⟩,
        ⟨(some 37), .bin true .quo (.t 36) (.v (.int .i64 10)), none⟩,
        ⟨(some 38), .bin false .lss (.t 34) (.t 37), none⟩])
      (.cond (.t 38)
        (.seq
        (.reg 3 none [
          ⟨(some 2), .mv (.v (.int .i64 0)), none⟩,
          ⟨(some 3), .mv (.v (.bool false)), none⟩])
        (.canon [] [2, 3] .ret))
        .skip))
      (.reg 6 none [
        ⟨(some 39), .mv (.t 6), none⟩,
        ⟨(some 40), .bin false .mul (.v (.int .i64 10)) (.t 39), none⟩,
        ⟨(some 41), .mv (.t 8), none⟩,
        ⟨(some 42), .bin false .sub (.t 40) (.t 41), none⟩,
        ⟨(some 6), .mv (.t 42), none⟩]))))
    (.reg 7 none [
      ⟨(some 26), .mv (.t 7), none⟩,
      ⟨(some 27), .bin false .add (.t 26) (.v (.int .i64 1)), none⟩,
      ⟨(some 7), .mv (.t 27), none⟩]))))
def signetref2_Whole_q : IQ :=
  (.seq
  (.reg 3 none [
    ⟨(some 2), .mv (.v (.int .i64 0)), none⟩,
    ⟨(some 3), .mv (.v (.bool false)), none⟩])
  (.seq
  (.reg 5 none [
    ⟨(some 10), .mv (.t 0), none⟩,
    ⟨(some 11), .call 29 [(.t 10)], none⟩,
    ⟨(some 9), .mv (.t 11), none⟩,
    ⟨(some 12), .extract (.t 9) 0, none⟩,
    ⟨(some 13), .extract (.t 9) 1, none⟩,
    ⟨(some 4), .alloc 56 [.bool false, .slice none 0 0, .int .i64 0, .bool false, .slice none 0 0, .bool false, .string ⟨#[]⟩], none⟩,
    ⟨none, .store 7 (.t 4) (.t 12), none⟩,
    ⟨(some 5), .mv (.t 13), none⟩])
  (.seq
  (.seq
  (.reg 20 none [
    ⟨(some 14), .mv (.t 5), none⟩,
    ⟨(some 15), .un .not (.t 14), none⟩,
    ⟨(some 16), .mv (.t 15), none⟩,
    ⟨(some 17), .faddr 5 (.t 4), some (16, false)⟩,
    ⟨(some 18), .load none (.t 17), some (16, false)⟩,
    ⟨(some 19), .un .not (.t 18), some (16, false)⟩,
    ⟨(some 20), .pick (.t 16) (.v (.bool true)) (.t 19), none⟩])
  (.cond (.t 20)
    (.seq
    (.reg 3 none [
      ⟨(some 2), .mv (.v (.int .i64 0)), none⟩,
      ⟨(some 3), .mv (.v (.bool false)), none⟩])
    (.canon [] [2, 3] .ret))
    .skip))
  (.seq
  (.reg 6 none [
    ⟨(some 6), .mv (.v (.int .i64 0)), none⟩])
  (.seq
  (.seq
  (.reg 7 none [
    ⟨(some 7), .mv (.v (.int .i64 0)), none⟩])
  (.block 0
    (.canon [] [4, 6, 7] (.sub 0 signetref2_Whole_b0))))
  (.seq
  (.seq
  (.reg 44 none [
    ⟨(some 43), .faddr 0 (.t 4), none⟩,
    ⟨(some 44), .load none (.t 43), none⟩])
  (.cond (.t 44)
    (.seq
    (.reg 3 none [
      ⟨(some 45), .mv (.t 6), none⟩,
      ⟨(some 2), .mv (.t 45), none⟩,
      ⟨(some 3), .mv (.v (.bool true)), none⟩])
    (.canon [] [2, 3] .ret))
    .skip))
  (.seq
  (.seq
  (.reg 47 none [
    ⟨(some 46), .mv (.t 6), none⟩,
    ⟨(some 47), .bin false .eql (.t 46) (.v (.int .i64 (-9223372036854775808))), none⟩])
  (.cond (.t 47)
    (.seq
    (.reg 3 none [
      ⟨(some 2), .mv (.v (.int .i64 0)), none⟩,
      ⟨(some 3), .mv (.v (.bool false)), none⟩])
    (.canon [] [2, 3] .ret))
    .skip))
  (.seq
  (.reg 3 none [
    ⟨(some 48), .mv (.t 6), none⟩,
    ⟨(some 49), .un .neg (.t 48), none⟩,
    ⟨(some 2), .mv (.t 49), none⟩,
    ⟨(some 3), .mv (.v (.bool true)), none⟩])
  (.canon [] [2, 3] .ret)))))))))
theorem signetref2_Whole_chk : chk Try.prog 25 [37] = some (signetref2_Whole_q.erase, [.tmp 2, .tmp 3], 50) := by kernel_rfl
noncomputable def signetref2_Whole_p0_step (v : Int) (i : Int) (n_Text : ByteArray) : Option ((Int × Int) ⊕ ((Int × Bool) ⊕ Int)) :=
  bif decide (i < (n_Text.size : Int)) then (
    gd (0 ≤ i ∧ i < n_Text.size) <|
    gd (InI64 (((bAt n_Text i) - (48 : Int)) % 256)) <|
    gd (InI64 ((-9223372036854775808 : Int) + (((bAt n_Text i) - (48 : Int)) % 256))) <|
    gd ((10 : Int) ≠ 0 ∧ InI64 (Int.tdiv ((-9223372036854775808 : Int) + (((bAt n_Text i) - (48 : Int)) % 256)) (10 : Int))) <|
    bif decide (v < (Int.tdiv ((-9223372036854775808 : Int) + (((bAt n_Text i) - (48 : Int)) % 256)) (10 : Int))) then (
      some (.inr (.inl ((0 : Int), false))))
    else (
      gd (InI64 ((10 : Int) * v)) <|
      gd (InI64 (((10 : Int) * v) - (((bAt n_Text i) - (48 : Int)) % 256))) <|
      gd (InI64 (i + (1 : Int))) <|
      some (.inl ((((10 : Int) * v) - (((bAt n_Text i) - (48 : Int)) % 256)), (i + (1 : Int))))))
  else (
    some (.inr (.inr v)))
noncomputable def signetref2_Whole_p0 (v : Int) (i : Int) (n_Text : ByteArray) : Option ((Int × Bool) ⊕ Int) :=
  whileO (fun x : (Int × Int) => signetref2_Whole_p0_step x.1 x.2 n_Text) (v, i)
noncomputable def signetref2_Whole_s (text : ByteArray) : Option (Int × Bool) :=
  (signetref2_Read_s text).bind fun r3 =>
  bif ((!r3.2) || (!r3.1.plain)) then (
    some ((0 : Int), false))
  else (
    (signetref2_Whole_p0 (0 : Int) (0 : Int) r3.1.text).bind fun o4 => (Sum.elim (fun (o4_0 : Int × Bool) =>
      some (o4_0.1, o4_0.2)) (fun (o4_1 : Int) =>
      bif r3.1.minus then (
        some (o4_1, true))
      else (
        bif decide (o4_1 = (-9223372036854775808 : Int)) then (
          some ((0 : Int), false))
        else (
          gd (InI64 (0 - o4_1)) <|
          some ((0 - o4_1), true))))) o4)
noncomputable def signetref2_Whole_G : Nat → Option CQ := tblQ [(29, signetref2_Read_w)]
theorem signetref2_Whole_Gok : ∀ f C, signetref2_Whole_G f = some C → ValidQ Try.prog f C := tblQ_valid ⟨signetref2_Read_ok, trivial⟩
def signetref2_Whole_d0 := (dQS (dCons (dSl 4 (dVC (dCO (dH 0 0)))) (dCons (dSl 6 (dVC (dCO (dI .i64)))) (dCons (dSl 7 (dVC (dCO (dI .i64)))) dNil))) (dCons (dCells 56 (dCons dB (dCons (dO 1) (dCons (dI .i64) (dCons dB (dCons (dO 2) (dCons dB (dCons dS dNil)))))))) (dCons (dRow .i64 3) (dCons (dRow .i64 3) dNil))))
noncomputable def signetref2_Whole_l0 : SubQ := fun S R kn kx kr => (Dec.d signetref2_Whole_d0 S).bind fun x => (signetref2_Whole_p0 x.1.2.1 x.1.2.2.1 x.2.1.2.2.2.2.2.2.1).bind fun r => (Sum.elim (fun (r_0 : Int × Bool) => kr ⟨[(2, [], .c (.o (.val (.int .i64 r_0.1)))), (3, [], .c (.o (.val (.bool r_0.2))))], [], []⟩) (fun (r_1 : Int) => kx 0 ⟨[(4, [], .c (.o (.hd 0 0))), (6, [], .c (.o (.val (.int .i64 r_1))))], [], [.cells 56 [.val (.bool x.2.1.1), .own 1, .val (.int .i64 x.2.1.2.2.1), .val (.bool x.2.1.2.2.2.1), .own 2, .val (.bool x.2.1.2.2.2.2.2.1), .val (.string x.2.1.2.2.2.2.2.2.1)], .row .i64 3 x.2.2.1, .row .i64 3 x.2.2.2.1]⟩)) r
noncomputable def signetref2_Whole_L : Nat → SubQ := tblL [(0, signetref2_Whole_l0)]
theorem signetref2_Whole_p0_eq (v : Int) (i : Int) (n_Minus : Bool) (n_Off : Int) (n_Down : Bool) (n_Plain : Bool) (n_Text : ByteArray) (n_Digits : List Int) (n_Exp : List Int) (R : Type) (kn : QS → Option R) (kx : Nat → QS → Option R) (kr : QS → Option R) :
    interpQ signetref2_Whole_L signetref2_Whole_G 0 9 50 signetref2_Whole_b0 ⟨[(4, [], .c (.o (.hd 0 0))), (6, [], .c (.o (.val (.int .i64 v)))), (7, [], .c (.o (.val (.int .i64 i))))], [], [.cells 56 [.val (.bool n_Minus), .own 1, .val (.int .i64 n_Off), .val (.bool n_Down), .own 2, .val (.bool n_Plain), .val (.string n_Text)], .row .i64 3 n_Digits, .row .i64 3 n_Exp]⟩ kn kx kr = (signetref2_Whole_p0 v i n_Text).bind fun r => (Sum.elim (fun (r_0 : Int × Bool) => kr ⟨[(2, [], .c (.o (.val (.int .i64 r_0.1)))), (3, [], .c (.o (.val (.bool r_0.2))))], [], []⟩) (fun (r_1 : Int) => kx 0 ⟨[(4, [], .c (.o (.hd 0 0))), (6, [], .c (.o (.val (.int .i64 r_1))))], [], [.cells 56 [.val (.bool n_Minus), .own 1, .val (.int .i64 n_Off), .val (.bool n_Down), .own 2, .val (.bool n_Plain), .val (.string n_Text)], .row .i64 3 n_Digits, .row .i64 3 n_Exp]⟩)) r := by
  refine loop_piece (step := fun x => signetref2_Whole_p0_step x.1 x.2 n_Text) (enc := fun x => ⟨[(4, [], .c (.o (.hd 0 0))), (6, [], .c (.o (.val (.int .i64 x.1)))), (7, [], .c (.o (.val (.int .i64 x.2))))], [], [.cells 56 [.val (.bool n_Minus), .own 1, .val (.int .i64 n_Off), .val (.bool n_Down), .own 2, .val (.bool n_Plain), .val (.string n_Text)], .row .i64 3 n_Digits, .row .i64 3 n_Exp]⟩) (ko := fun r => (Sum.elim (fun (r_0 : Int × Bool) => kr ⟨[(2, [], .c (.o (.val (.int .i64 r_0.1)))), (3, [], .c (.o (.val (.bool r_0.2))))], [], []⟩) (fun (r_1 : Int) => kx 0 ⟨[(4, [], .c (.o (.hd 0 0))), (6, [], .c (.o (.val (.int .i64 r_1))))], [], [.cells 56 [.val (.bool n_Minus), .own 1, .val (.int .i64 n_Off), .val (.bool n_Down), .own 2, .val (.bool n_Plain), .val (.string n_Text)], .row .i64 3 n_Digits, .row .i64 3 n_Exp]⟩)) r) ?_ ?_ (v, i)
  · intro x; kernel_rfl
  · intro x ki; simp only [signetref2_Whole_p0_step, -eq_self, bind_cond, bind_gd, Option.bind_assoc, Option.bind_some, Sum.elim_inl, Sum.elim_inr, bind_elim]; kernel_rfl
theorem signetref2_Whole_sub0 : SubOK signetref2_Whole_L signetref2_Whole_G 0 9 50 0 signetref2_Whole_b0 := sub_ok' signetref2_Whole_d0 (fun x R kn kx kr => (signetref2_Whole_p0 x.1.2.1 x.1.2.2.1 x.2.1.2.2.2.2.2.2.1).bind fun r => (Sum.elim (fun (r_0 : Int × Bool) => kr ⟨[(2, [], .c (.o (.val (.int .i64 r_0.1)))), (3, [], .c (.o (.val (.bool r_0.2))))], [], []⟩) (fun (r_1 : Int) => kx 0 ⟨[(4, [], .c (.o (.hd 0 0))), (6, [], .c (.o (.val (.int .i64 r_1))))], [], [.cells 56 [.val (.bool x.2.1.1), .own 1, .val (.int .i64 x.2.1.2.2.1), .val (.bool x.2.1.2.2.2.1), .own 2, .val (.bool x.2.1.2.2.2.2.2.1), .val (.string x.2.1.2.2.2.2.2.2.1)], .row .i64 3 x.2.2.1, .row .i64 3 x.2.2.2.1]⟩)) r) (by kernel_rfl) fun x R kn kx kr => signetref2_Whole_p0_eq x.1.2.1 x.1.2.2.1 x.2.1.1 x.2.1.2.2.1 x.2.1.2.2.2.1 x.2.1.2.2.2.2.2.1 x.2.1.2.2.2.2.2.2.1 x.2.2.1 x.2.2.2.1 R kn kx kr
theorem signetref2_Whole_subs : subsOK signetref2_Whole_L signetref2_Whole_G 0 9 50 signetref2_Whole_q := subs_of (show AllSub signetref2_Whole_L signetref2_Whole_G 0 9 50 [(0, signetref2_Whole_b0)] from ⟨signetref2_Whole_sub0, trivial⟩)
theorem signetref2_Whole_eq (text : ByteArray) (R : Type) (k : SV → List SB → Option R) :
    fnQ signetref2_Whole_L signetref2_Whole_G 9 50 signetref2_Whole_q [.tmp 2, .tmp 3] [.c (.o (.val (.string text)))] [] k = (signetref2_Whole_s text).bind fun r => k (.tup [.o (.val (.int .i64 r.1)), .o (.val (.bool r.2))]) [] := by
  simp only [signetref2_Whole_s, -eq_self, bind_cond, bind_gd, Option.bind_assoc, Option.bind_some, Sum.elim_inl, Sum.elim_inr, bind_elim]
  kernel_rfl
def signetref2_Whole_da := (dCons (dVC (dCO dS)) dNil)
def signetref2_Whole_db := (dNil : Dec Unit (List SB))
noncomputable def signetref2_Whole_c : CS := fun args hp R k => (Dec.d signetref2_Whole_da args).bind fun x => (Dec.d signetref2_Whole_db hp).bind fun y => (signetref2_Whole_s x.1).bind fun r => k (.tup [.o (.val (.int .i64 r.1)), .o (.val (.bool r.2))]) []
theorem signetref2_Whole_val : ValidS Try.prog 25 signetref2_Whole_c :=
  val_ok signetref2_Whole_chk 9 signetref2_Whole_Gok signetref2_Whole_da signetref2_Whole_db 0 (fun x y R k => (signetref2_Whole_s x.1).bind fun r => k (.tup [.o (.val (.int .i64 r.1)), .o (.val (.bool r.2))]) []) (by kernel_rfl)
    (fun x y R k => by simp only [Option.bind_assoc, Option.bind_some]) (fun x => Nat.le_of_ble_eq_true rfl) (fun y => rfl) signetref2_Whole_subs fun x y => signetref2_Whole_eq x.1 _ _
noncomputable def signetref2_Whole_w : CQ := liftV [] signetref2_Whole_c
theorem signetref2_Whole_ok : ValidQ Try.prog 25 signetref2_Whole_w := liftV_valid signetref2_Whole_val
end Go.Proofs.Ytdcoiccdbgcpaaa
