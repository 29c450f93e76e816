/-
  Functions as the engine reads them (printed by gen.py).
-/
import Derived.Test.YtdibapfehdhfjaaDoorEngO
import Derived.Test.YtdibapfehdhfjaaDoorProg
import Derived.Test.YtdibapfehdhfjaaDoorGC
import Derived.Test.YtdibapfehdhfjaaDoorGD
import Derived.Test.YtdibapfehdhfjaaDoorGE
namespace Go.Proofs.YtdibapfehdhfjaaDoor
open Go.Eng
set_option linter.unusedVariables false
set_option linter.unusedSimpArgs false
set_option maxRecDepth 100000
/-! ### signet/signetlaw2.cut -/
def signetlaw2_cut_b0 : IQ :=
  (.loop [0, 4]
    (.seq
    (.seq
    (.reg 8 none [
      ⟨(some 5), .mv (.t 4), none⟩,
      ⟨(some 6), .mv (.t 0), none⟩,
      ⟨(some 7), .lenS (.t 6), none⟩,
      ⟨(some 8), .bin false .lss (.t 5) (.t 7), none⟩])
    (.cond (.t 8)
      .skip
      (.canon [] [0] (.exit 0))))
    (.seq
    (.block 1
      (.seq
      (.reg 14 none [
        ⟨(some 11), .mv (.t 0), none⟩,
        ⟨(some 12), .mv (.t 4), none⟩,
        ⟨(some 13), .index (.t 11) (.t 12), none⟩,
        ⟨(some 14), .bin false .eql (.t 13) (.v (.int .u8 46)), none⟩])
      (.cond (.t 14)
        (.seq
        (.reg 3 (some [0, 1, 2, 3, 4, 5, 6, 7, 8]) [
          ⟨(some 15), .mv (.t 0), none⟩,
          ⟨(some 16), .mv (.t 4), none⟩,
          ⟨(some 17), .sub none (.t 15) none (some (.t 16)), none⟩,
          ⟨(some 18), .mv (.t 0), none⟩,
          ⟨(some 19), .mv (.t 4), none⟩,
          ⟨(some 20), .bin false .add (.t 19) (.v (.int .i64 1)), none⟩,
          ⟨(some 21), .sub none (.t 18) (some (.t 20)) none, none⟩,
          ⟨(some 2), .mv (.t 17), none⟩,
          ⟨(some 3), .mv (.t 21), none⟩])
        (.canon [] [2, 3] .ret))
        .skip)))
    (.reg 4 none [
      ⟨(some 9), .mv (.t 4), none⟩,
      ⟨(some 10), .bin false .add (.t 9) (.v (.int .i64 1)), none⟩,
      ⟨(some 4), .mv (.t 10), none⟩]))))
def signetlaw2_cut_q : IQ :=
  (.seq
  (.reg 3 none [
    ⟨(some 2), .mv (.v (.string ⟨#[]⟩)), none⟩,
    ⟨(some 3), .mv (.v (.string ⟨#[]⟩)), none⟩])
  (.seq
  (.seq
  (.reg 4 none [
    ⟨(some 4), .mv (.v (.int .i64 0)), none⟩])
  (.block 0
    (.canon [] [0, 4] (.sub 0 signetlaw2_cut_b0))))
  (.seq
  (.reg 3 none [
    ⟨(some 22), .mv (.t 0), none⟩,
    ⟨(some 2), .mv (.t 22), none⟩,
    ⟨(some 3), .mv (.v (.string ⟨#[]⟩)), none⟩])
  (.canon [] [2, 3] .ret))))
theorem signetlaw2_cut_chk : chk Tryd.prog 29 [] = some (signetlaw2_cut_q.erase, [.tmp 2, .tmp 3], 23) := by kernel_rfl
noncomputable def signetlaw2_cut_p0_step (s : ByteArray) (i : Int) : Option (Int ⊕ ((ByteArray × ByteArray) ⊕ Unit)) :=
  bif decide (i < (s.size : Int)) then (
    gd (0 ≤ i ∧ i < s.size) <|
    bif decide ((bAt s i) = (46 : Int)) then (
      gd (0 ≤ (0 : Int) ∧ (0 : Int) ≤ i ∧ i ≤ s.size) <|
      gd (InI64 (i + (1 : Int))) <|
      gd (0 ≤ (i + (1 : Int)) ∧ (i + (1 : Int)) ≤ (s.size : Int) ∧ (s.size : Int) ≤ s.size) <|
      some (.inr (.inl ((s.extract 0 (Int.toNat i)), (s.extract (Int.toNat (i + (1 : Int))) s.size)))))
    else (
      gd (InI64 (i + (1 : Int))) <|
      some (.inl (i + (1 : Int)))))
  else (
    some (.inr (.inr ())))
noncomputable def signetlaw2_cut_p0 (s : ByteArray) (i : Int) : Option ((ByteArray × ByteArray) ⊕ Unit) :=
  whileO (fun x : Int => signetlaw2_cut_p0_step s x) i
noncomputable def signetlaw2_cut_s (s : ByteArray) : Option (ByteArray × ByteArray) :=
  (signetlaw2_cut_p0 s (0 : Int)).bind fun o1 => (Sum.elim (fun (o1_0 : ByteArray × ByteArray) =>
    some (o1_0.1, o1_0.2)) (fun (o1_1 : Unit) =>
    some (s, (⟨#[]⟩ : ByteArray)))) o1
noncomputable def signetlaw2_cut_G : Nat → Option CQ := tblQ []
theorem signetlaw2_cut_Gok : ∀ f C, signetlaw2_cut_G f = some C → ValidQ Tryd.prog f C := fun f C h => by cases h
def signetlaw2_cut_d0 := (dQS (dCons (dSl 0 (dVC (dCO dS))) (dCons (dSl 4 (dVC (dCO (dI .i64)))) dNil)) dNil)
noncomputable def signetlaw2_cut_l0 : SubQ := fun S R kn kx kr => (Dec.d signetlaw2_cut_d0 S).bind fun x => (signetlaw2_cut_p0 x.1.1 x.1.2.1).bind fun r => (Sum.elim (fun (r_0 : ByteArray × ByteArray) => kr ⟨[(2, [], .c (.o (.val (.string r_0.1)))), (3, [], .c (.o (.val (.string r_0.2))))], [], []⟩) (fun (r_1 : Unit) => kx 0 ⟨[(0, [], .c (.o (.val (.string x.1.1))))], [], []⟩)) r
noncomputable def signetlaw2_cut_L : Nat → SubQ := tblL [(0, signetlaw2_cut_l0)]
theorem signetlaw2_cut_p0_eq (s : ByteArray) (i : Int) (R : Type) (kn : QS → Option R) (kx : Nat → QS → Option R) (kr : QS → Option R) :
    interpQ signetlaw2_cut_L signetlaw2_cut_G 0 5 23 signetlaw2_cut_b0 ⟨[(0, [], .c (.o (.val (.string s)))), (4, [], .c (.o (.val (.int .i64 i))))], [], []⟩ kn kx kr = (signetlaw2_cut_p0 s i).bind fun r => (Sum.elim (fun (r_0 : ByteArray × ByteArray) => kr ⟨[(2, [], .c (.o (.val (.string r_0.1)))), (3, [], .c (.o (.val (.string r_0.2))))], [], []⟩) (fun (r_1 : Unit) => kx 0 ⟨[(0, [], .c (.o (.val (.string s))))], [], []⟩)) r := by
  refine loop_piece (step := fun x => signetlaw2_cut_p0_step s x) (enc := fun x => ⟨[(0, [], .c (.o (.val (.string s)))), (4, [], .c (.o (.val (.int .i64 x))))], [], []⟩) (ko := fun r => (Sum.elim (fun (r_0 : ByteArray × ByteArray) => kr ⟨[(2, [], .c (.o (.val (.string r_0.1)))), (3, [], .c (.o (.val (.string r_0.2))))], [], []⟩) (fun (r_1 : Unit) => kx 0 ⟨[(0, [], .c (.o (.val (.string s))))], [], []⟩)) r) ?_ ?_ i
  · intro x; kernel_rfl
  · intro x ki; simp only [signetlaw2_cut_p0_step, -eq_self, bind_cond, bind_gd, Option.bind_assoc, Option.bind_some, Sum.elim_inl, Sum.elim_inr, bind_elim]; kernel_rfl
theorem signetlaw2_cut_sub0 : SubOK signetlaw2_cut_L signetlaw2_cut_G 0 5 23 0 signetlaw2_cut_b0 := sub_ok' signetlaw2_cut_d0 (fun x R kn kx kr => (signetlaw2_cut_p0 x.1.1 x.1.2.1).bind fun r => (Sum.elim (fun (r_0 : ByteArray × ByteArray) => kr ⟨[(2, [], .c (.o (.val (.string r_0.1)))), (3, [], .c (.o (.val (.string r_0.2))))], [], []⟩) (fun (r_1 : Unit) => kx 0 ⟨[(0, [], .c (.o (.val (.string x.1.1))))], [], []⟩)) r) (by kernel_rfl) fun x R kn kx kr => signetlaw2_cut_p0_eq x.1.1 x.1.2.1 R kn kx kr
theorem signetlaw2_cut_subs : subsOK signetlaw2_cut_L signetlaw2_cut_G 0 5 23 signetlaw2_cut_q := subs_of (show AllSub signetlaw2_cut_L signetlaw2_cut_G 0 5 23 [(0, signetlaw2_cut_b0)] from ⟨signetlaw2_cut_sub0, trivial⟩)
theorem signetlaw2_cut_eq (s : ByteArray) (R : Type) (k : SV → List SB → Option R) :
    fnQ signetlaw2_cut_L signetlaw2_cut_G 5 23 signetlaw2_cut_q [.tmp 2, .tmp 3] [.c (.o (.val (.string s)))] [] k = (signetlaw2_cut_s s).bind fun r => k (.tup [.o (.val (.string r.1)), .o (.val (.string r.2))]) [] := by
  simp only [signetlaw2_cut_s, -eq_self, bind_cond, bind_gd, Option.bind_assoc, Option.bind_some, Sum.elim_inl, Sum.elim_inr, bind_elim]
  kernel_rfl
def signetlaw2_cut_da := (dCons (dVC (dCO dS)) dNil)
def signetlaw2_cut_db := (dNil : Dec Unit (List SB))
noncomputable def signetlaw2_cut_c : CS := fun args hp R k => (Dec.d signetlaw2_cut_da args).bind fun x => (Dec.d signetlaw2_cut_db hp).bind fun y => (signetlaw2_cut_s x.1).bind fun r => k (.tup [.o (.val (.string r.1)), .o (.val (.string r.2))]) []
theorem signetlaw2_cut_val : ValidS Tryd.prog 29 signetlaw2_cut_c :=
  val_ok signetlaw2_cut_chk 5 signetlaw2_cut_Gok signetlaw2_cut_da signetlaw2_cut_db 0 (fun x y R k => (signetlaw2_cut_s x.1).bind fun r => k (.tup [.o (.val (.string r.1)), .o (.val (.string r.2))]) []) (by kernel_rfl)
    (fun x y R k => by simp only [Option.bind_assoc, Option.bind_some]) (fun x => Nat.le_of_ble_eq_true rfl) (fun y => rfl) signetlaw2_cut_subs fun x y => signetlaw2_cut_eq x.1 _ _
noncomputable def signetlaw2_cut_w : CQ := liftV [] signetlaw2_cut_c
theorem signetlaw2_cut_ok : ValidQ Tryd.prog 29 signetlaw2_cut_w := liftV_valid signetlaw2_cut_val

/-! ### signet/signetlaw2.DecimalBack -/
end Go.Proofs.YtdibapfehdhfjaaDoor
