/-
  Functions as the engine reads them (printed by gen.py).
-/
import Derived.Test.YtdibapfehdhfjaaDoorEngO
import Derived.Test.YtdibapfehdhfjaaDoorProg
import Derived.Test.YtdibapfehdhfjaaDoorFmt
import Derived.Test.YtdibapfehdhfjaaDoorGC
import Derived.Test.YtdibapfehdhfjaaDoorGD
import Derived.Test.YtdibapfehdhfjaaDoorGE
namespace Go.Proofs.YtdibapfehdhfjaaDoor
open Go.Eng
set_option linter.unusedVariables false
set_option linter.unusedSimpArgs false
set_option maxRecDepth 100000
/-! ### signet/signetlaw2.DecimalWholes -/
def signetlaw2_DecimalWholes_b1 : IQ :=
  (.seq
  (.reg 4 none [
    ⟨(some 44), .mv (.t 8), none⟩,
    ⟨(some 45), .mv (.t 44), none⟩,
    ⟨(some 46), .mv (.t 7), some (45, true)⟩,
    ⟨(some 47), .mv (.t 0), some (45, true)⟩,
    ⟨(some 48), .bin false .eql (.t 46) (.t 47), some (45, true)⟩,
    ⟨(some 49), .pick (.t 45) (.t 48) (.v (.bool false)), none⟩,
    ⟨(some 50), .mv (.t 49), none⟩,
    ⟨(some 51), .mv (.t 10), some (50, true)⟩,
    ⟨(some 52), .bin false .eql (.t 51) (.v (.int .i64 0)), some (50, true)⟩,
    ⟨(some 53), .pick (.t 50) (.t 52) (.v (.bool false)), none⟩,
    ⟨(some 54), .mv (.t 53), none⟩,
    ⟨(some 55), .mv (.t 9), some (54, true)⟩,
    ⟨(some 56), .mv (.t 13), some (54, true)⟩,
    ⟨(some 57), .bin false .eql (.t 55) (.t 56), some (54, true)⟩,
    ⟨(some 58), .pick (.t 54) (.t 57) (.v (.bool false)), none⟩,
    ⟨(some 59), .mv (.t 58), none⟩,
    ⟨(some 60), .mv (.t 12), some (59, true)⟩,
    ⟨(some 61), .un .not (.t 60), some (59, true)⟩,
    ⟨(some 62), .pick (.t 59) (.t 61) (.v (.bool false)), none⟩,
    ⟨(some 4), .mv (.t 62), none⟩])
  (.canon [] [4] .ret))
def signetlaw2_DecimalWholes_b0 : IQ :=
  (.seq
  (.seq
  (.reg 43 none [
    ⟨(some 41), .mv (.t 0), none⟩,
    ⟨(some 42), .mv (.t 1), none⟩,
    ⟨(some 43), .bin false .gtr (.t 41) (.t 42), none⟩])
  (.cond (.t 43)
    (.reg 13 none [
      ⟨(some 13), .mv (.v (.int .i64 1)), none⟩])
    .skip))
  (.canon [] [0, 7, 8, 9, 10, 12, 13] (.sub 1 signetlaw2_DecimalWholes_b1)))
def signetlaw2_DecimalWholes_q : IQ :=
  (.seq
  (.reg 4 none [
    ⟨(some 4), .mv (.v (.bool false)), none⟩])
  (.seq
  (.seq
  (.reg 15 none [
    ⟨(some 14), .call 23 [], none⟩,
    ⟨(some 15), .un .not (.t 14), none⟩])
  (.cond (.t 15)
    (.seq
    (.reg 4 none [
      ⟨(some 4), .mv (.v (.bool false)), none⟩])
    (.canon [] [4] .ret))
    .skip))
  (.seq
  (.reg 5 none [
    ⟨(some 16), .mv (.t 0), none⟩,
    ⟨(some 17), .call 30 [(.t 16), (.v (.int .i64 10))], none⟩,
    ⟨(some 5), .mv (.t 17), none⟩])
  (.seq
  (.reg 6 none [
    ⟨(some 18), .mv (.t 1), none⟩,
    ⟨(some 19), .call 30 [(.t 18), (.v (.int .i64 10))], none⟩,
    ⟨(some 6), .mv (.t 19), none⟩])
  (.seq
  (.reg 8 none [
    ⟨(some 21), .mv (.t 5), none⟩,
    ⟨(some 22), .call 15 [(.t 21)], none⟩,
    ⟨(some 20), .mv (.t 22), none⟩,
    ⟨(some 23), .extract (.t 20) 0, none⟩,
    ⟨(some 24), .extract (.t 20) 1, none⟩,
    ⟨(some 7), .mv (.t 23), none⟩,
    ⟨(some 8), .mv (.t 24), none⟩])
  (.seq
  (.reg 10 none [
    ⟨(some 26), .mv (.t 5), none⟩,
    ⟨(some 27), .mv (.t 6), none⟩,
    ⟨(some 28), .bin false .add (.t 27) (.v (.string ⟨#[46, 48, 48, 48]⟩)), none⟩,
    ⟨(some 29), .call 19 [(.t 26), (.t 28)], none⟩,
    ⟨(some 25), .mv (.t 29), none⟩,
    ⟨(some 30), .extract (.t 25) 0, none⟩,
    ⟨(some 31), .extract (.t 25) 1, none⟩,
    ⟨(some 9), .mv (.t 30), none⟩,
    ⟨(some 10), .mv (.t 31), none⟩])
  (.seq
  (.reg 12 none [
    ⟨(some 33), .mv (.t 6), none⟩,
    ⟨(some 34), .bin false .add (.t 33) (.v (.string ⟨#[46, 48, 48, 48]⟩)), none⟩,
    ⟨(some 35), .call 15 [(.t 34)], none⟩,
    ⟨(some 32), .mv (.t 35), none⟩,
    ⟨(some 36), .extract (.t 32) 0, none⟩,
    ⟨(some 37), .extract (.t 32) 1, none⟩,
    ⟨(some 11), .mv (.t 36), none⟩,
    ⟨(some 12), .mv (.t 37), none⟩])
  (.seq
  (.reg 13 none [
    ⟨(some 13), .mv (.v (.int .i64 0)), none⟩])
  (.seq
  (.seq
  (.reg 40 none [
    ⟨(some 38), .mv (.t 0), none⟩,
    ⟨(some 39), .mv (.t 1), none⟩,
    ⟨(some 40), .bin false .lss (.t 38) (.t 39), none⟩])
  (.cond (.t 40)
    (.reg 13 none [
      ⟨(some 13), .mv (.v (.int .i64 (-1))), none⟩])
    .skip))
  (.canon [] [0, 1, 7, 8, 9, 10, 12, 13] (.sub 0 signetlaw2_DecimalWholes_b0)))))))))))
theorem signetlaw2_DecimalWholes_chk : chk Tryd.prog 11 [] = some (signetlaw2_DecimalWholes_q.erase, [.tmp 4], 63) := by kernel_rfl
noncomputable def signetlaw2_DecimalWholes_p1 (m : Int) (x_ : Int) (ok : Bool) (c : Int) (e : Int) (no : Bool) (want : Int) : Option Bool :=
  some ((((ok && (decide (x_ = m))) && (decide (e = (0 : Int)))) && (decide (c = want))) && (!no))
noncomputable def signetlaw2_DecimalWholes_p0 (m : Int) (n : Int) (x_ : Int) (ok : Bool) (c : Int) (e : Int) (no : Bool) (want : Int) : Option Bool :=
  bif decide (n < m) then (
    (signetlaw2_DecimalWholes_p1 m x_ ok c e no (1 : Int)).bind fun o7 =>
    some o7)
  else (
    (signetlaw2_DecimalWholes_p1 m x_ ok c e no want).bind fun o8 =>
    some o8)
noncomputable def signetlaw2_DecimalWholes_s (m : Int) (n : Int) : Option Bool :=
  (signetlaw2_started_s).bind fun r1 =>
  bif (!r1) then (
    some false)
  else (
    (strconv_FormatInt_s m (10 : Int)).bind fun r2 =>
    (strconv_FormatInt_s n (10 : Int)).bind fun r3 =>
    (decimal_Whole_s r2).bind fun r4 =>
    gd (r3.size + (⟨#[46, 48, 48, 48]⟩ : ByteArray).size ≤ 9223372036854775807) <|
    (decimal_Compare_s r2 (r3 ++ (⟨#[46, 48, 48, 48]⟩ : ByteArray))).bind fun r5 =>
    gd (r3.size + (⟨#[46, 48, 48, 48]⟩ : ByteArray).size ≤ 9223372036854775807) <|
    (decimal_Whole_s (r3 ++ (⟨#[46, 48, 48, 48]⟩ : ByteArray))).bind fun r6 =>
    bif decide (m < n) then (
      (signetlaw2_DecimalWholes_p0 m n r4.1 r4.2 r5.1 r5.2 r6.2 (-1 : Int)).bind fun o9 =>
      some o9)
    else (
      (signetlaw2_DecimalWholes_p0 m n r4.1 r4.2 r5.1 r5.2 r6.2 (0 : Int)).bind fun o10 =>
      some o10))
noncomputable def signetlaw2_DecimalWholes_G : Nat → Option CQ := tblQ [(23, signetlaw2_started_w), (30, strconv_FormatInt_w), (15, decimal_Whole_w), (19, decimal_Compare_w)]
theorem signetlaw2_DecimalWholes_Gok : ∀ f C, signetlaw2_DecimalWholes_G f = some C → ValidQ Tryd.prog f C := tblQ_valid ⟨signetlaw2_started_ok, strconv_FormatInt_ok, decimal_Whole_ok, decimal_Compare_ok, trivial⟩
def signetlaw2_DecimalWholes_d1 := (dQS (dCons (dSl 0 (dVC (dCO (dI .i64)))) (dCons (dSl 7 (dVC (dCO (dI .i64)))) (dCons (dSl 8 (dVC (dCO dB))) (dCons (dSl 9 (dVC (dCO (dI .i64)))) (dCons (dSl 10 (dVC (dCO (dI .i64)))) (dCons (dSl 12 (dVC (dCO dB))) (dCons (dSl 13 (dVC (dCO (dI .i64)))) dNil))))))) dNil)
noncomputable def signetlaw2_DecimalWholes_l1 : SubQ := fun S R kn kx kr => (Dec.d signetlaw2_DecimalWholes_d1 S).bind fun x => (signetlaw2_DecimalWholes_p1 x.1.1 x.1.2.1 x.1.2.2.1 x.1.2.2.2.1 x.1.2.2.2.2.1 x.1.2.2.2.2.2.1 x.1.2.2.2.2.2.2.1).bind fun r => kr ⟨[(4, [], .c (.o (.val (.bool r))))], [], []⟩
def signetlaw2_DecimalWholes_d0 := (dQS (dCons (dSl 0 (dVC (dCO (dI .i64)))) (dCons (dSl 1 (dVC (dCO (dI .i64)))) (dCons (dSl 7 (dVC (dCO (dI .i64)))) (dCons (dSl 8 (dVC (dCO dB))) (dCons (dSl 9 (dVC (dCO (dI .i64)))) (dCons (dSl 10 (dVC (dCO (dI .i64)))) (dCons (dSl 12 (dVC (dCO dB))) (dCons (dSl 13 (dVC (dCO (dI .i64)))) dNil)))))))) dNil)
noncomputable def signetlaw2_DecimalWholes_l0 : SubQ := fun S R kn kx kr => (Dec.d signetlaw2_DecimalWholes_d0 S).bind fun x => (signetlaw2_DecimalWholes_p0 x.1.1 x.1.2.1 x.1.2.2.1 x.1.2.2.2.1 x.1.2.2.2.2.1 x.1.2.2.2.2.2.1 x.1.2.2.2.2.2.2.1 x.1.2.2.2.2.2.2.2.1).bind fun r => kr ⟨[(4, [], .c (.o (.val (.bool r))))], [], []⟩
noncomputable def signetlaw2_DecimalWholes_L : Nat → SubQ := tblL [(1, signetlaw2_DecimalWholes_l1), (0, signetlaw2_DecimalWholes_l0)]
theorem signetlaw2_DecimalWholes_p1_eq (m : Int) (x_ : Int) (ok : Bool) (c : Int) (e : Int) (no : Bool) (want : Int) (R : Type) (kn : QS → Option R) (kx : Nat → QS → Option R) (kr : QS → Option R) :
    interpQ signetlaw2_DecimalWholes_L signetlaw2_DecimalWholes_G 0 14 63 signetlaw2_DecimalWholes_b1 ⟨[(0, [], .c (.o (.val (.int .i64 m)))), (7, [], .c (.o (.val (.int .i64 x_)))), (8, [], .c (.o (.val (.bool ok)))), (9, [], .c (.o (.val (.int .i64 c)))), (10, [], .c (.o (.val (.int .i64 e)))), (12, [], .c (.o (.val (.bool no)))), (13, [], .c (.o (.val (.int .i64 want))))], [], []⟩ kn kx kr = (signetlaw2_DecimalWholes_p1 m x_ ok c e no want).bind fun r => kr ⟨[(4, [], .c (.o (.val (.bool r))))], [], []⟩ := by
  simp only [signetlaw2_DecimalWholes_p1, -eq_self, bind_cond, bind_gd, Option.bind_assoc, Option.bind_some, Sum.elim_inl, Sum.elim_inr, bind_elim]
  kernel_rfl
theorem signetlaw2_DecimalWholes_sub1 : SubOK signetlaw2_DecimalWholes_L signetlaw2_DecimalWholes_G 0 14 63 1 signetlaw2_DecimalWholes_b1 := sub_ok' signetlaw2_DecimalWholes_d1 (fun x R kn kx kr => (signetlaw2_DecimalWholes_p1 x.1.1 x.1.2.1 x.1.2.2.1 x.1.2.2.2.1 x.1.2.2.2.2.1 x.1.2.2.2.2.2.1 x.1.2.2.2.2.2.2.1).bind fun r => kr ⟨[(4, [], .c (.o (.val (.bool r))))], [], []⟩) (by kernel_rfl) fun x R kn kx kr => signetlaw2_DecimalWholes_p1_eq x.1.1 x.1.2.1 x.1.2.2.1 x.1.2.2.2.1 x.1.2.2.2.2.1 x.1.2.2.2.2.2.1 x.1.2.2.2.2.2.2.1 R kn kx kr
theorem signetlaw2_DecimalWholes_p0_eq (m : Int) (n : Int) (x_ : Int) (ok : Bool) (c : Int) (e : Int) (no : Bool) (want : Int) (R : Type) (kn : QS → Option R) (kx : Nat → QS → Option R) (kr : QS → Option R) :
    interpQ signetlaw2_DecimalWholes_L signetlaw2_DecimalWholes_G 0 14 63 signetlaw2_DecimalWholes_b0 ⟨[(0, [], .c (.o (.val (.int .i64 m)))), (1, [], .c (.o (.val (.int .i64 n)))), (7, [], .c (.o (.val (.int .i64 x_)))), (8, [], .c (.o (.val (.bool ok)))), (9, [], .c (.o (.val (.int .i64 c)))), (10, [], .c (.o (.val (.int .i64 e)))), (12, [], .c (.o (.val (.bool no)))), (13, [], .c (.o (.val (.int .i64 want))))], [], []⟩ kn kx kr = (signetlaw2_DecimalWholes_p0 m n x_ ok c e no want).bind fun r => kr ⟨[(4, [], .c (.o (.val (.bool r))))], [], []⟩ := by
  simp only [signetlaw2_DecimalWholes_p0, -eq_self, bind_cond, bind_gd, Option.bind_assoc, Option.bind_some, Sum.elim_inl, Sum.elim_inr, bind_elim]
  kernel_rfl
theorem signetlaw2_DecimalWholes_sub0 : SubOK signetlaw2_DecimalWholes_L signetlaw2_DecimalWholes_G 0 14 63 0 signetlaw2_DecimalWholes_b0 := sub_ok' signetlaw2_DecimalWholes_d0 (fun x R kn kx kr => (signetlaw2_DecimalWholes_p0 x.1.1 x.1.2.1 x.1.2.2.1 x.1.2.2.2.1 x.1.2.2.2.2.1 x.1.2.2.2.2.2.1 x.1.2.2.2.2.2.2.1 x.1.2.2.2.2.2.2.2.1).bind fun r => kr ⟨[(4, [], .c (.o (.val (.bool r))))], [], []⟩) (by kernel_rfl) fun x R kn kx kr => signetlaw2_DecimalWholes_p0_eq x.1.1 x.1.2.1 x.1.2.2.1 x.1.2.2.2.1 x.1.2.2.2.2.1 x.1.2.2.2.2.2.1 x.1.2.2.2.2.2.2.1 x.1.2.2.2.2.2.2.2.1 R kn kx kr
theorem signetlaw2_DecimalWholes_subs : subsOK signetlaw2_DecimalWholes_L signetlaw2_DecimalWholes_G 0 14 63 signetlaw2_DecimalWholes_q := subs_of (show AllSub signetlaw2_DecimalWholes_L signetlaw2_DecimalWholes_G 0 14 63 [(0, signetlaw2_DecimalWholes_b0), (1, signetlaw2_DecimalWholes_b1)] from ⟨signetlaw2_DecimalWholes_sub0, signetlaw2_DecimalWholes_sub1, trivial⟩)
theorem signetlaw2_DecimalWholes_eq (m : Int) (n : Int) (R : Type) (k : SV → List SB → Option R) :
    fnQ signetlaw2_DecimalWholes_L signetlaw2_DecimalWholes_G 14 63 signetlaw2_DecimalWholes_q [.tmp 4] [.c (.o (.val (.int .i64 m))), .c (.o (.val (.int .i64 n)))] [] k = (signetlaw2_DecimalWholes_s m n).bind fun r => k (.c (.o (.val (.bool r)))) [] := by
  simp only [signetlaw2_DecimalWholes_s, -eq_self, bind_cond, bind_gd, Option.bind_assoc, Option.bind_some, Sum.elim_inl, Sum.elim_inr, bind_elim]
  kernel_rfl
def signetlaw2_DecimalWholes_da := (dCons (dVC (dCO (dI .i64))) (dCons (dVC (dCO (dI .i64))) dNil))
def signetlaw2_DecimalWholes_db := (dNil : Dec Unit (List SB))
noncomputable def signetlaw2_DecimalWholes_c : CS := fun args hp R k => (Dec.d signetlaw2_DecimalWholes_da args).bind fun x => (Dec.d signetlaw2_DecimalWholes_db hp).bind fun y => (signetlaw2_DecimalWholes_s x.1 x.2.1).bind fun r => k (.c (.o (.val (.bool r)))) []
theorem signetlaw2_DecimalWholes_val : ValidS Tryd.prog 11 signetlaw2_DecimalWholes_c :=
  val_ok signetlaw2_DecimalWholes_chk 14 signetlaw2_DecimalWholes_Gok signetlaw2_DecimalWholes_da signetlaw2_DecimalWholes_db 0 (fun x y R k => (signetlaw2_DecimalWholes_s x.1 x.2.1).bind fun r => k (.c (.o (.val (.bool r)))) []) (by kernel_rfl)
    (fun x y R k => by simp only [Option.bind_assoc, Option.bind_some]) (fun x => Nat.le_of_ble_eq_true rfl) (fun y => rfl) signetlaw2_DecimalWholes_subs fun x y => signetlaw2_DecimalWholes_eq x.1 x.2.1 _ _
/-! ### signet/signetlaw2.DecimalShifts -/
end Go.Proofs.YtdibapfehdhfjaaDoor
