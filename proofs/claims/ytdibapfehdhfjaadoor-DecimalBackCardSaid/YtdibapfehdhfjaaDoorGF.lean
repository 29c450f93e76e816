/-
  Functions as the engine reads them (printed by gen.py).
-/
import Derived.Test.YtdibapfehdhfjaaDoorEngO
import Derived.Test.YtdibapfehdhfjaaDoorProg
import Derived.Test.YtdibapfehdhfjaaDoorGC
import Derived.Test.YtdibapfehdhfjaaDoorGD
import Derived.Test.YtdibapfehdhfjaaDoorGE
namespace Go.Proofs.YtdibapfehdhfjaaDoor
open Go.Eng
set_option linter.unusedVariables false
set_option linter.unusedSimpArgs false
set_option maxRecDepth 100000
/-! ### signet/signetlaw2.cut -/
def signetlaw2_cut_b0 : IQ :=
  (.loop [0, 4]
    (.seq
    (.seq
    (.reg 8 none [
      ⟨(some 5), .mv (.t 4), none⟩,
      ⟨(some 6), .mv (.t 0), none⟩,
      ⟨(some 7), .lenS (.t 6), none⟩,
      ⟨(some 8), .bin false .lss (.t 5) (.t 7), none⟩])
    (.cond (.t 8)
      .skip
      (.canon [] [0] (.exit 0))))
    (.seq
    (.block 1
      (.seq
      (.reg 14 none [
        ⟨(some 11), .mv (.t 0), none⟩,
        ⟨(some 12), .mv (.t 4), none⟩,
        ⟨(some 13), .index (.t 11) (.t 12), none⟩,
        ⟨(some 14), .bin false .eql (.t 13) (.v (.int .u8 46)), none⟩])
      (.cond (.t 14)
        (.seq
        (.reg 3 (some [0, 1, 2, 3, 4, 5, 6, 7, 8]) [
          ⟨(some 15), .mv (.t 0), none⟩,
          ⟨(some 16), .mv (.t 4), none⟩,
          ⟨(some 17), .sub none (.t 15) none (some (.t 16)), none⟩,
          ⟨(some 18), .mv (.t 0), none⟩,
          ⟨(some 19), .mv (.t 4), none⟩,
          ⟨(some 20), .bin false .add (.t 19) (.v (.int .i64 1)), none⟩,
          ⟨(some 21), .sub none (.t 18) (some (.t 20)) none, none⟩,
          ⟨(some 2), .mv (.t 17), none⟩,
          ⟨(some 3), .mv (.t 21), none⟩])
        (.canon [] [2, 3] .ret))
        .skip)))
    (.reg 4 none [
      ⟨(some 9), .mv (.t 4), none⟩,
      ⟨(some 10), .bin false .add (.t 9) (.v (.int .i64 1)), none⟩,
      ⟨(some 4), .mv (.t 10), none⟩]))))
def signetlaw2_cut_q : IQ :=
  (.seq
  (.reg 3 none [
    ⟨(some 2), .mv (.v (.string ⟨#[]⟩)), none⟩,
    ⟨(some 3), .mv (.v (.string ⟨#[]⟩)), none⟩])
  (.seq
  (.seq
  (.reg 4 none [
    ⟨(some 4), .mv (.v (.int .i64 0)), none⟩])
  (.block 0
    (.canon [] [0, 4] (.sub 0 signetlaw2_cut_b0))))
  (.seq
  (.reg 3 none [
    ⟨(some 22), .mv (.t 0), none⟩,
    ⟨(some 2), .mv (.t 22), none⟩,
    ⟨(some 3), .mv (.v (.string ⟨#[]⟩)), none⟩])
  (.canon [] [2, 3] .ret))))
theorem signetlaw2_cut_chk : chk Tryd.prog 29 [] = some (signetlaw2_cut_q.erase, [.tmp 2, .tmp 3], 23) := by kernel_rfl
noncomputable def signetlaw2_cut_p0_step (s : ByteArray) (i : Int) : Option (Int ⊕ ((ByteArray × ByteArray) ⊕ Unit)) :=
  bif decide (i < (s.size : Int)) then (
    gd (0 ≤ i ∧ i < s.size) <|
    bif decide ((bAt s i) = (46 : Int)) then (
      gd (0 ≤ (0 : Int) ∧ (0 : Int) ≤ i ∧ i ≤ s.size) <|
      gd (InI64 (i + (1 : Int))) <|
      gd (0 ≤ (i + (1 : Int)) ∧ (i + (1 : Int)) ≤ (s.size : Int) ∧ (s.size : Int) ≤ s.size) <|
      some (.inr (.inl ((s.extract 0 (Int.toNat i)), (s.extract (Int.toNat (i + (1 : Int))) s.size)))))
    else (
      gd (InI64 (i + (1 : Int))) <|
      some (.inl (i + (1 : Int)))))
  else (
    some (.inr (.inr ())))
noncomputable def signetlaw2_cut_p0 (s : ByteArray) (i : Int) : Option ((ByteArray × ByteArray) ⊕ Unit) :=
  whileO (fun x : Int => signetlaw2_cut_p0_step s x) i
noncomputable def signetlaw2_cut_s (s : ByteArray) : Option (ByteArray × ByteArray) :=
  (signetlaw2_cut_p0 s (0 : Int)).bind fun o1 => (Sum.elim (fun (o1_0 : ByteArray × ByteArray) =>
    some (o1_0.1, o1_0.2)) (fun (o1_1 : Unit) =>
    some (s, (⟨#[]⟩ : ByteArray)))) o1
noncomputable def signetlaw2_cut_G : Nat → Option CQ := tblQ []
theorem signetlaw2_cut_Gok : ∀ f C, signetlaw2_cut_G f = some C → ValidQ Tryd.prog f C := fun f C h => by cases h
def signetlaw2_cut_d0 := (dQS (dCons (dSl 0 (dVC (dCO dS))) (dCons (dSl 4 (dVC (dCO (dI .i64)))) dNil)) dNil)
noncomputable def signetlaw2_cut_l0 : SubQ := fun S R kn kx kr => (Dec.d signetlaw2_cut_d0 S).bind fun x => (signetlaw2_cut_p0 x.1.1 x.1.2.1).bind fun r => (Sum.elim (fun (r_0 : ByteArray × ByteArray) => kr ⟨[(2, [], .c (.o (.val (.string r_0.1)))), (3, [], .c (.o (.val (.string r_0.2))))], [], []⟩) (fun (r_1 : Unit) => kx 0 ⟨[(0, [], .c (.o (.val (.string x.1.1))))], [], []⟩)) r
noncomputable def signetlaw2_cut_L : Nat → SubQ := tblL [(0, signetlaw2_cut_l0)]
theorem signetlaw2_cut_p0_eq (s : ByteArray) (i : Int) (R : Type) (kn : QS → Option R) (kx : Nat → QS → Option R) (kr : QS → Option R) :
    interpQ signetlaw2_cut_L signetlaw2_cut_G 0 5 23 signetlaw2_cut_b0 ⟨[(0, [], .c (.o (.val (.string s)))), (4, [], .c (.o (.val (.int .i64 i))))], [], []⟩ kn kx kr = (signetlaw2_cut_p0 s i).bind fun r => (Sum.elim (fun (r_0 : ByteArray × ByteArray) => kr ⟨[(2, [], .c (.o (.val (.string r_0.1)))), (3, [], .c (.o (.val (.string r_0.2))))], [], []⟩) (fun (r_1 : Unit) => kx 0 ⟨[(0, [], .c (.o (.val (.string s))))], [], []⟩)) r := by
  refine loop_piece (step := fun x => signetlaw2_cut_p0_step s x) (enc := fun x => ⟨[(0, [], .c (.o (.val (.string s)))), (4, [], .c (.o (.val (.int .i64 x))))], [], []⟩) (ko := fun r => (Sum.elim (fun (r_0 : ByteArray × ByteArray) => kr ⟨[(2, [], .c (.o (.val (.string r_0.1)))), (3, [], .c (.o (.val (.string r_0.2))))], [], []⟩) (fun (r_1 : Unit) => kx 0 ⟨[(0, [], .c (.o (.val (.string s))))], [], []⟩)) r) ?_ ?_ i
  · intro x; kernel_rfl
  · intro x ki; simp only [signetlaw2_cut_p0_step, -eq_self, bind_cond, bind_gd, Option.bind_assoc, Option.bind_some, Sum.elim_inl, Sum.elim_inr, bind_elim]; kernel_rfl
theorem signetlaw2_cut_sub0 : SubOK signetlaw2_cut_L signetlaw2_cut_G 0 5 23 0 signetlaw2_cut_b0 := sub_ok' signetlaw2_cut_d0 (fun x R kn kx kr => (signetlaw2_cut_p0 x.1.1 x.1.2.1).bind fun r => (Sum.elim (fun (r_0 : ByteArray × ByteArray) => kr ⟨[(2, [], .c (.o (.val (.string r_0.1)))), (3, [], .c (.o (.val (.string r_0.2))))], [], []⟩) (fun (r_1 : Unit) => kx 0 ⟨[(0, [], .c (.o (.val (.string x.1.1))))], [], []⟩)) r) (by kernel_rfl) fun x R kn kx kr => signetlaw2_cut_p0_eq x.1.1 x.1.2.1 R kn kx kr
theorem signetlaw2_cut_subs : subsOK signetlaw2_cut_L signetlaw2_cut_G 0 5 23 signetlaw2_cut_q := subs_of (show AllSub signetlaw2_cut_L signetlaw2_cut_G 0 5 23 [(0, signetlaw2_cut_b0)] from ⟨signetlaw2_cut_sub0, trivial⟩)
theorem signetlaw2_cut_eq (s : ByteArray) (R : Type) (k : SV → List SB → Option R) :
    fnQ signetlaw2_cut_L signetlaw2_cut_G 5 23 signetlaw2_cut_q [.tmp 2, .tmp 3] [.c (.o (.val (.string s)))] [] k = (signetlaw2_cut_s s).bind fun r => k (.tup [.o (.val (.string r.1)), .o (.val (.string r.2))]) [] := by
  simp only [signetlaw2_cut_s, -eq_self, bind_cond, bind_gd, Option.bind_assoc, Option.bind_some, Sum.elim_inl, Sum.elim_inr, bind_elim]
  kernel_rfl
def signetlaw2_cut_da := (dCons (dVC (dCO dS)) dNil)
def signetlaw2_cut_db := (dNil : Dec Unit (List SB))
noncomputable def signetlaw2_cut_c : CS := fun args hp R k => (Dec.d signetlaw2_cut_da args).bind fun x => (Dec.d signetlaw2_cut_db hp).bind fun y => (signetlaw2_cut_s x.1).bind fun r => k (.tup [.o (.val (.string r.1)), .o (.val (.string r.2))]) []
theorem signetlaw2_cut_val : ValidS Tryd.prog 29 signetlaw2_cut_c :=
  val_ok signetlaw2_cut_chk 5 signetlaw2_cut_Gok signetlaw2_cut_da signetlaw2_cut_db 0 (fun x y R k => (signetlaw2_cut_s x.1).bind fun r => k (.tup [.o (.val (.string r.1)), .o (.val (.string r.2))]) []) (by kernel_rfl)
    (fun x y R k => by simp only [Option.bind_assoc, Option.bind_some]) (fun x => Nat.le_of_ble_eq_true rfl) (fun y => rfl) signetlaw2_cut_subs fun x y => signetlaw2_cut_eq x.1 _ _
noncomputable def signetlaw2_cut_w : CQ := liftV [] signetlaw2_cut_c
theorem signetlaw2_cut_ok : ValidQ Tryd.prog 29 signetlaw2_cut_w := liftV_valid signetlaw2_cut_val

/-! ### signet/signetlaw2.DecimalBack -/
def signetlaw2_DecimalBack_b0 : IQ :=
  (.seq
  (.reg 10 none [
    ⟨(some 59), .mv (.t 8), none⟩,
    ⟨(some 60), .mv (.t 3), none⟩,
    ⟨(some 61), .call 19 [(.t 59), (.t 60)], none⟩,
    ⟨(some 58), .mv (.t 61), none⟩,
    ⟨(some 62), .extract (.t 58) 0, none⟩,
    ⟨(some 63), .extract (.t 58) 1, none⟩,
    ⟨(some 9), .mv (.t 62), none⟩,
    ⟨(some 10), .mv (.t 63), none⟩])
  (.seq
  (.reg 2 none [
    ⟨(some 64), .mv (.t 10), none⟩,
    ⟨(some 65), .bin false .eql (.t 64) (.v (.int .i64 0)), none⟩,
    ⟨(some 66), .mv (.t 65), none⟩,
    ⟨(some 67), .mv (.t 9), some (66, true)⟩,
    ⟨(some 68), .bin false .neq (.t 67) (.v (.int .i64 0)), some (66, true)⟩,
    ⟨(some 69), .pick (.t 66) (.t 68) (.v (.bool false)), none⟩,
    ⟨(some 2), .mv (.t 69), none⟩])
  (.canon [] [2] .ret)))
def signetlaw2_DecimalBack_q : IQ :=
  (.seq
  (.reg 2 none [
    ⟨(some 2), .mv (.v (.bool false)), none⟩])
  (.seq
  (.seq
  (.reg 12 none [
    ⟨(some 11), .call 23 [], none⟩,
    ⟨(some 12), .un .not (.t 11), none⟩])
  (.cond (.t 12)
    (.seq
    (.reg 2 none [
      ⟨(some 2), .mv (.v (.bool false)), none⟩])
    (.canon [] [2] .ret))
    .skip))
  (.seq
  (.reg 3 none [
    ⟨(some 13), .mv (.t 0), none⟩,
    ⟨(some 14), .call 13 [(.t 13)], none⟩,
    ⟨(some 3), .mv (.t 14), none⟩])
  (.seq
  (.seq
  (.reg 18 none [
    ⟨(some 15), .mv (.t 0), none⟩,
    ⟨(some 16), .bin false .shr (.t 15) (.v (.int .u64 23)), none⟩,
    ⟨(some 17), .bin false .and (.t 16) (.v (.int .u32 255)), none⟩,
    ⟨(some 18), .bin false .eql (.t 17) (.v (.int .u32 255)), none⟩])
  (.cond (.t 18)
    (.seq
    (.reg 2 none [
      ⟨(some 19), .mv (.t 3), none⟩,
      ⟨(some 20), .bin false .eql (.t 19) (.v (.string ⟨#[]⟩)), none⟩,
      ⟨(some 2), .mv (.t 20), none⟩])
    (.canon [] [2] .ret))
    .skip))
  (.seq
  (.reg 5 none [
    ⟨(some 22), .mv (.t 3), none⟩,
    ⟨(some 23), .call 21 [(.t 22)], none⟩,
    ⟨(some 21), .mv (.t 23), none⟩,
    ⟨(some 24), .extract (.t 21) 0, none⟩,
    ⟨(some 25), .extract (.t 21) 1, none⟩,
    ⟨(some 4), .mv (.t 24), none⟩,
    ⟨(some 5), .mv (.t 25), none⟩])
  (.seq
  (.seq
  (.reg 37 none [
    ⟨(some 26), .mv (.t 3), none⟩,
    ⟨(some 27), .call 17 [(.t 26)], none⟩,
    ⟨(some 28), .un .not (.t 27), none⟩,
    ⟨(some 29), .mv (.t 28), none⟩,
    ⟨(some 30), .mv (.t 5), some (29, false)⟩,
    ⟨(some 31), .bin false .neq (.t 30) (.v (.int .i64 0)), some (29, false)⟩,
    ⟨(some 32), .pick (.t 29) (.v (.bool true)) (.t 31), none⟩,
    ⟨(some 33), .mv (.t 32), none⟩,
    ⟨(some 34), .mv (.t 4), some (33, false)⟩,
    ⟨(some 35), .mv (.t 0), some (33, false)⟩,
    ⟨(some 36), .bin false .neq (.t 34) (.t 35), some (33, false)⟩,
    ⟨(some 37), .pick (.t 33) (.v (.bool true)) (.t 36), none⟩])
  (.cond (.t 37)
    (.seq
    (.reg 2 none [
      ⟨(some 2), .mv (.v (.bool false)), none⟩])
    (.canon [] [2] .ret))
    .skip))
  (.seq
  (.reg 7 none [
    ⟨(some 39), .mv (.t 3), none⟩,
    ⟨(some 40), .call 29 [(.t 39)], none⟩,
    ⟨(some 38), .mv (.t 40), none⟩,
    ⟨(some 41), .extract (.t 38) 0, none⟩,
    ⟨(some 42), .extract (.t 38) 1, none⟩,
    ⟨(some 6), .mv (.t 41), none⟩,
    ⟨(some 7), .mv (.t 42), none⟩])
  (.seq
  (.seq
  (.reg 44 none [
    ⟨(some 43), .mv (.t 7), none⟩,
    ⟨(some 44), .bin false .eql (.t 43) (.v (.string ⟨#[]⟩)), none⟩])
  (.cond (.t 44)
    (.seq
    (.reg 2 none [
      ⟨(some 2), .mv (.v (.bool true)), none⟩])
    (.canon [] [2] .ret))
    .skip))
  (.seq
  (.reg 8 none [
    ⟨(some 45), .mv (.t 3), none⟩,
    ⟨(some 46), .mv (.t 3), none⟩,
    ⟨(some 47), .lenS (.t 46), none⟩,
    ⟨(some 48), .bin false .sub (.t 47) (.v (.int .i64 1)), none⟩,
    ⟨(some 49), .sub none (.t 45) none (some (.t 48)), none⟩,
    ⟨(some 8), .mv (.t 49), none⟩])
  (.seq
  (.seq
  (.reg 52 none [
    ⟨(some 50), .mv (.t 7), none⟩,
    ⟨(some 51), .lenS (.t 50), none⟩,
    ⟨(some 52), .bin false .eql (.t 51) (.v (.int .i64 1)), none⟩])
  (.cond (.t 52)
    (.reg 8 none [
      ⟨(some 53), .mv (.t 3), none⟩,
      ⟨(some 54), .mv (.t 3), none⟩,
      ⟨(some 55), .lenS (.t 54), none⟩,
      ⟨(some 56), .bin false .sub (.t 55) (.v (.int .i64 2)), none⟩,
      ⟨(some 57), .sub none (.t 53) none (some (.t 56)), none⟩,
      ⟨(some 8), .mv (.t 57), none⟩])
    .skip))
  (.canon [] [3, 8] (.sub 0 signetlaw2_DecimalBack_b0))))))))))))
theorem signetlaw2_DecimalBack_chk : chk Tryd.prog 10 [] = some (signetlaw2_DecimalBack_q.erase, [.tmp 2], 70) := by kernel_rfl
noncomputable def signetlaw2_DecimalBack_p0 (s : ByteArray) (t : ByteArray) : Option Bool :=
  (decimal_Compare_s t s).bind fun r6 =>
  some ((decide (r6.2 = (0 : Int))) && (!decide (r6.1 = (0 : Int))))
noncomputable def signetlaw2_DecimalBack_s (bits : Int) : Option Bool :=
  (signetlaw2_started_s).bind fun r1 =>
  bif (!r1) then (
    some false)
  else (
    (decimal_Exact_s bits).bind fun r2 =>
    gd (0 ≤ (23 : Int)) <|
    bif decide ((bitAnd .u32 (bits / 8388608) (255 : Int)) = (255 : Int)) then (
      some (decide (r2 = (⟨#[]⟩ : ByteArray))))
    else (
      (decimal_Nearest_s r2).bind fun r3 =>
      (decimal_Valid_s r2).bind fun r4 =>
      bif (((!r4) || (!decide (r3.2 = (0 : Int)))) || (!decide (r3.1 = bits))) then (
        some false)
      else (
        (signetlaw2_cut_s r2).bind fun r5 =>
        bif decide (r5.2 = (⟨#[]⟩ : ByteArray)) then (
          some true)
        else (
          gd (InI64 ((r2.size : Int) - (1 : Int))) <|
          gd (0 ≤ (0 : Int) ∧ (0 : Int) ≤ ((r2.size : Int) - (1 : Int)) ∧ ((r2.size : Int) - (1 : Int)) ≤ r2.size) <|
          bif decide ((r5.2.size : Int) = (1 : Int)) then (
            gd (InI64 ((r2.size : Int) - (2 : Int))) <|
            gd (0 ≤ (0 : Int) ∧ (0 : Int) ≤ ((r2.size : Int) - (2 : Int)) ∧ ((r2.size : Int) - (2 : Int)) ≤ r2.size) <|
            (signetlaw2_DecimalBack_p0 r2 (r2.extract 0 (Int.toNat ((r2.size : Int) - (2 : Int))))).bind fun o7 =>
            some o7)
          else (
            (signetlaw2_DecimalBack_p0 r2 (r2.extract 0 (Int.toNat ((r2.size : Int) - (1 : Int))))).bind fun o8 =>
            some o8)))))
noncomputable def signetlaw2_DecimalBack_G : Nat → Option CQ := tblQ [(23, signetlaw2_started_w), (13, decimal_Exact_w), (21, decimal_Nearest_w), (17, decimal_Valid_w), (29, signetlaw2_cut_w), (19, decimal_Compare_w)]
theorem signetlaw2_DecimalBack_Gok : ∀ f C, signetlaw2_DecimalBack_G f = some C → ValidQ Tryd.prog f C := tblQ_valid ⟨signetlaw2_started_ok, decimal_Exact_ok, decimal_Nearest_ok, decimal_Valid_ok, signetlaw2_cut_ok, decimal_Compare_ok, trivial⟩
def signetlaw2_DecimalBack_d0 := (dQS (dCons (dSl 3 (dVC (dCO dS))) (dCons (dSl 8 (dVC (dCO dS))) dNil)) dNil)
noncomputable def signetlaw2_DecimalBack_l0 : SubQ := fun S R kn kx kr => (Dec.d signetlaw2_DecimalBack_d0 S).bind fun x => (signetlaw2_DecimalBack_p0 x.1.1 x.1.2.1).bind fun r => kr ⟨[(2, [], .c (.o (.val (.bool r))))], [], []⟩
noncomputable def signetlaw2_DecimalBack_L : Nat → SubQ := tblL [(0, signetlaw2_DecimalBack_l0)]
theorem signetlaw2_DecimalBack_p0_eq (s : ByteArray) (t : ByteArray) (R : Type) (kn : QS → Option R) (kx : Nat → QS → Option R) (kr : QS → Option R) :
    interpQ signetlaw2_DecimalBack_L signetlaw2_DecimalBack_G 0 11 70 signetlaw2_DecimalBack_b0 ⟨[(3, [], .c (.o (.val (.string s)))), (8, [], .c (.o (.val (.string t))))], [], []⟩ kn kx kr = (signetlaw2_DecimalBack_p0 s t).bind fun r => kr ⟨[(2, [], .c (.o (.val (.bool r))))], [], []⟩ := by
  simp only [signetlaw2_DecimalBack_p0, -eq_self, bind_cond, bind_gd, Option.bind_assoc, Option.bind_some, Sum.elim_inl, Sum.elim_inr, bind_elim]
  kernel_rfl
theorem signetlaw2_DecimalBack_sub0 : SubOK signetlaw2_DecimalBack_L signetlaw2_DecimalBack_G 0 11 70 0 signetlaw2_DecimalBack_b0 := sub_ok' signetlaw2_DecimalBack_d0 (fun x R kn kx kr => (signetlaw2_DecimalBack_p0 x.1.1 x.1.2.1).bind fun r => kr ⟨[(2, [], .c (.o (.val (.bool r))))], [], []⟩) (by kernel_rfl) fun x R kn kx kr => signetlaw2_DecimalBack_p0_eq x.1.1 x.1.2.1 R kn kx kr
theorem signetlaw2_DecimalBack_subs : subsOK signetlaw2_DecimalBack_L signetlaw2_DecimalBack_G 0 11 70 signetlaw2_DecimalBack_q := subs_of (show AllSub signetlaw2_DecimalBack_L signetlaw2_DecimalBack_G 0 11 70 [(0, signetlaw2_DecimalBack_b0)] from ⟨signetlaw2_DecimalBack_sub0, trivial⟩)
theorem signetlaw2_DecimalBack_eq (bits : Int) (R : Type) (k : SV → List SB → Option R) :
    fnQ signetlaw2_DecimalBack_L signetlaw2_DecimalBack_G 11 70 signetlaw2_DecimalBack_q [.tmp 2] [.c (.o (.val (.int .u32 bits)))] [] k = (signetlaw2_DecimalBack_s bits).bind fun r => k (.c (.o (.val (.bool r)))) [] := by
  simp only [signetlaw2_DecimalBack_s, -eq_self, bind_cond, bind_gd, Option.bind_assoc, Option.bind_some, Sum.elim_inl, Sum.elim_inr, bind_elim]
  kernel_rfl
def signetlaw2_DecimalBack_da := (dCons (dVC (dCO (dI .u32))) dNil)
def signetlaw2_DecimalBack_db := (dNil : Dec Unit (List SB))
noncomputable def signetlaw2_DecimalBack_c : CS := fun args hp R k => (Dec.d signetlaw2_DecimalBack_da args).bind fun x => (Dec.d signetlaw2_DecimalBack_db hp).bind fun y => (signetlaw2_DecimalBack_s x.1).bind fun r => k (.c (.o (.val (.bool r)))) []
theorem signetlaw2_DecimalBack_val : ValidS Tryd.prog 10 signetlaw2_DecimalBack_c :=
  val_ok signetlaw2_DecimalBack_chk 11 signetlaw2_DecimalBack_Gok signetlaw2_DecimalBack_da signetlaw2_DecimalBack_db 0 (fun x y R k => (signetlaw2_DecimalBack_s x.1).bind fun r => k (.c (.o (.val (.bool r)))) []) (by kernel_rfl)
    (fun x y R k => by simp only [Option.bind_assoc, Option.bind_some]) (fun x => Nat.le_of_ble_eq_true rfl) (fun y => rfl) signetlaw2_DecimalBack_subs fun x y => signetlaw2_DecimalBack_eq x.1 _ _
noncomputable def signetlaw2_DecimalBack_w : CQ := liftV [] signetlaw2_DecimalBack_c
theorem signetlaw2_DecimalBack_ok : ValidQ Tryd.prog 10 signetlaw2_DecimalBack_w := liftV_valid signetlaw2_DecimalBack_val
end Go.Proofs.YtdibapfehdhfjaaDoor
