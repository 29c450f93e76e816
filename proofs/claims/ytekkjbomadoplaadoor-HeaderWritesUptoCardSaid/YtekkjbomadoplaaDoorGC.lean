/-
 Functions as the engine reads them (printed by gen.py).
-/
import Derived.Test.YtekkjbomadoplaaDoorEngO
import Derived.Test.YtekkjbomadoplaaDoorProg
namespace Go.Proofs.YtekkjbomadoplaaDoor
open Go.Eng
set_option linter.unusedVariables false
set_option linter.unusedSimpArgs false
set_option maxRecDepth 100000
noncomputable section
structure decimal_number where
 minus : Bool
 whole : ByteArray
 digits : ByteArray
 point : Int
 plain : Bool
 down : Bool
 exp_ : ByteArray

structure signetref2_Num where
 minus : Bool
 digits : (List Int)
 off : Int
 down : Bool
 exp_ : (List Int)
 plain : Bool
 text : ByteArray

/-! ### internal/stringslite.HasPrefix -/
def zag_q : IQ :=
 (.seq
 (.reg 4 none [
  oP 4 (.mv (.v (.bool false)))])
 (.seq
 (.reg 4 none [
  oP 5 (.mv (.t 0)),
  oP 6 (.lenS (.t 5)),
  oP 7 (.mv (.t 1)),
  oP 8 (.lenS (.t 7)),
  oP 9 (.bin false .geq (.t 6) (.t 8)),
  oP 10 (.mv (.t 9)),
  oG 11 (.mv (.t 0)) 10 true,
  oG 12 (.mv (.t 1)) 10 true,
  oG 13 (.lenS (.t 12)) 10 true,
  oG 14 (.sub none (.t 11) none (some (.t 13))) 10 true,
  oG 15 (.mv (.t 1)) 10 true,
  oG 16 (.bin false .eql (.t 14) (.t 15)) 10 true,
  oP 17 (.pick (.t 10) (.t 16) (.v (.bool false))),
  oP 4 (.mv (.t 17))])
 (.canon [] [4] .ret)))
theorem zag_chk : chk Tryd.prog 122 [] = some (zag_q.erase, [.tmp 4], 18) := by kernel_rfl
def zag_s (s : ByteArray) (prefix_ : ByteArray) : Option Bool :=
 gd ((decide ((prefix_.size : Int) ≤ (s.size : Int))) = true → 0 ≤ (0 : Int) ∧ (0 : Int) ≤ (prefix_.size : Int) ∧ (prefix_.size : Int) ≤ s.size) <|
 some ((decide ((prefix_.size : Int) ≤ (s.size : Int))) && (decide ((s.extract 0 (Int.toNat (prefix_.size : Int))) = prefix_)))
def zag_G : Nat → Option CQ := tblQ []
theorem zag_Gok : ∀ f C, zag_G f = some C → ValidQ Tryd.prog f C := fun f C h => by cases h
def zag_L : Nat → SubQ := tblL []
theorem zag_subs : subsOK zag_L zag_G 0 5 18 zag_q := subs_of (show AllSub zag_L zag_G 0 5 18 [] from trivial)
theorem zag_eq (s : ByteArray) (prefix_ : ByteArray) (R : Type) (k : SV → List SB → Option R) :
  fnQ zag_L zag_G 5 18 zag_q [.tmp 4] [.c (.o (.val (.string s))), .c (.o (.val (.string prefix_)))] [] k = (zag_s s prefix_).bind fun r => k (.c (.o (.val (.bool r)))) [] := by
 simp only [zag_s, -eq_self, bind_cond, bind_gd, Option.bind_assoc, obS, Sum.elim_inl, Sum.elim_inr, bind_elim]
 kernel_rfl
def zag_da := (dCons (dVC (dCO dS)) (dCons (dVC (dCO dS)) dNil))
def zag_db := (dNil : Dec Unit (List SB))
def zag_c : CS := fun args hp R k => (Dec.d zag_da args).bind fun x => (Dec.d zag_db hp).bind fun y => (zag_s x.1 x.2.1).bind fun r => k (.c (.o (.val (.bool r)))) []
theorem zag_val : ValidS Tryd.prog 122 zag_c :=
 val_ok zag_chk 5 zag_Gok zag_da zag_db 0 (fun x y R k => (zag_s x.1 x.2.1).bind fun r => k (.c (.o (.val (.bool r)))) []) (by kernel_rfl)
  (fun x y R k => by simp only [Option.bind_assoc, obS]) (fun x => Nat.le_of_ble_eq_true rfl) (fun y => rfl) zag_subs fun x y => zag_eq x.1 x.2.1 _ _
def zag_w : CQ := liftV [] zag_c
theorem zag_ok : ValidQ Tryd.prog 122 zag_w := liftV_valid zag_val

/-! ### internal/stringslite.CutPrefix -/
def zaf_q : IQ :=
 (.seq
 (.reg 5 none [
  oP 4 (.mv (.v (.string ⟨#[]⟩))),
  oP 5 (.mv (.v (.bool false)))])
 (.seq
 (.seq
 (.reg 9 none [
  oP 6 (.mv (.t 0)),
  oP 7 (.mv (.t 1)),
  oP 8 (.call 122 [(.t 6), (.t 7)]),
  oP 9 (.un .not (.t 8))])
 (.cond (.t 9)
  (.seq
  (.reg 5 none [
   oP 10 (.mv (.t 0)),
   oP 4 (.mv (.t 10)),
   oP 5 (.mv (.v (.bool false)))])
  (.canon [] [4, 5] .ret))
  .skip))
 (.seq
 (.reg 5 none [
  oP 11 (.mv (.t 0)),
  oP 12 (.mv (.t 1)),
  oP 13 (.lenS (.t 12)),
  oP 14 (.sub none (.t 11) (some (.t 13)) none),
  oP 4 (.mv (.t 14)),
  oP 5 (.mv (.v (.bool true)))])
 (.canon [] [4, 5] .ret))))
theorem zaf_chk : chk Tryd.prog 111 [] = some (zaf_q.erase, [.tmp 4, .tmp 5], 15) := by kernel_rfl
def zaf_s (s : ByteArray) (prefix_ : ByteArray) : Option (ByteArray × Bool) :=
 (zag_s s prefix_).bind fun r1 =>
 bif (!r1) then (
  some (s, false))
 else (
  gd (0 ≤ (prefix_.size : Int) ∧ (prefix_.size : Int) ≤ (s.size : Int) ∧ (s.size : Int) ≤ s.size) <|
  some ((s.extract (Int.toNat (prefix_.size : Int)) s.size), true))
def zaf_G : Nat → Option CQ := tblQ [(122, zag_w)]
theorem zaf_Gok : ∀ f C, zaf_G f = some C → ValidQ Tryd.prog f C := tblQ_valid ⟨zag_ok, trivial⟩
def zaf_L : Nat → SubQ := tblL []
theorem zaf_subs : subsOK zaf_L zaf_G 0 6 15 zaf_q := subs_of (show AllSub zaf_L zaf_G 0 6 15 [] from trivial)
theorem zaf_eq (s : ByteArray) (prefix_ : ByteArray) (R : Type) (k : SV → List SB → Option R) :
  fnQ zaf_L zaf_G 6 15 zaf_q [.tmp 4, .tmp 5] [.c (.o (.val (.string s))), .c (.o (.val (.string prefix_)))] [] k = (zaf_s s prefix_).bind fun r => k (.tup [.o (.val (.string r.1)), .o (.val (.bool r.2))]) [] := by
 simp only [zaf_s, -eq_self, bind_cond, bind_gd, Option.bind_assoc, obS, Sum.elim_inl, Sum.elim_inr, bind_elim]
 kernel_rfl
def zaf_da := (dCons (dVC (dCO dS)) (dCons (dVC (dCO dS)) dNil))
def zaf_db := (dNil : Dec Unit (List SB))
def zaf_c : CS := fun args hp R k => (Dec.d zaf_da args).bind fun x => (Dec.d zaf_db hp).bind fun y => (zaf_s x.1 x.2.1).bind fun r => k (.tup [.o (.val (.string r.1)), .o (.val (.bool r.2))]) []
theorem zaf_val : ValidS Tryd.prog 111 zaf_c :=
 val_ok zaf_chk 6 zaf_Gok zaf_da zaf_db 0 (fun x y R k => (zaf_s x.1 x.2.1).bind fun r => k (.tup [.o (.val (.string r.1)), .o (.val (.bool r.2))]) []) (by kernel_rfl)
  (fun x y R k => by simp only [Option.bind_assoc, obS]) (fun x => Nat.le_of_ble_eq_true rfl) (fun y => rfl) zaf_subs fun x y => zaf_eq x.1 x.2.1 _ _
def zaf_w : CQ := liftV [] zaf_c
theorem zaf_ok : ValidQ Tryd.prog 111 zaf_w := liftV_valid zaf_val

/-! ### strings.CutPrefix -/
def zbq_q : IQ :=
 (.seq
 (.reg 5 none [
  oP 4 (.mv (.v (.string ⟨#[]⟩))),
  oP 5 (.mv (.v (.bool false)))])
 (.seq
 (.reg 5 none [
  oP 6 (.mv (.t 0)),
  oP 7 (.mv (.t 1)),
  oP 8 (.call 111 [(.t 6), (.t 7)]),
  oP 9 (.extract (.t 8) 0),
  oP 10 (.extract (.t 8) 1),
  oP 4 (.mv (.t 9)),
  oP 5 (.mv (.t 10))])
 (.canon [] [4, 5] .ret)))
theorem zbq_chk : chk Tryd.prog 100 [] = some (zbq_q.erase, [.tmp 4, .tmp 5], 11) := by kernel_rfl
def zbq_s (s : ByteArray) (prefix_ : ByteArray) : Option (ByteArray × Bool) :=
 (zaf_s s prefix_).bind fun r1 =>
 some (r1.1, r1.2)
def zbq_G : Nat → Option CQ := tblQ [(111, zaf_w)]
theorem zbq_Gok : ∀ f C, zbq_G f = some C → ValidQ Tryd.prog f C := tblQ_valid ⟨zaf_ok, trivial⟩
def zbq_L : Nat → SubQ := tblL []
theorem zbq_subs : subsOK zbq_L zbq_G 0 6 11 zbq_q := subs_of (show AllSub zbq_L zbq_G 0 6 11 [] from trivial)
theorem zbq_eq (s : ByteArray) (prefix_ : ByteArray) (R : Type) (k : SV → List SB → Option R) :
  fnQ zbq_L zbq_G 6 11 zbq_q [.tmp 4, .tmp 5] [.c (.o (.val (.string s))), .c (.o (.val (.string prefix_)))] [] k = (zbq_s s prefix_).bind fun r => k (.tup [.o (.val (.string r.1)), .o (.val (.bool r.2))]) [] := by
 simp only [zbq_s, -eq_self, bind_cond, bind_gd, Option.bind_assoc, obS, Sum.elim_inl, Sum.elim_inr, bind_elim]
 kernel_rfl
def zbq_da := (dCons (dVC (dCO dS)) (dCons (dVC (dCO dS)) dNil))
def zbq_db := (dNil : Dec Unit (List SB))
def zbq_c : CS := fun args hp R k => (Dec.d zbq_da args).bind fun x => (Dec.d zbq_db hp).bind fun y => (zbq_s x.1 x.2.1).bind fun r => k (.tup [.o (.val (.string r.1)), .o (.val (.bool r.2))]) []
theorem zbq_val : ValidS Tryd.prog 100 zbq_c :=
 val_ok zbq_chk 6 zbq_Gok zbq_da zbq_db 0 (fun x y R k => (zbq_s x.1 x.2.1).bind fun r => k (.tup [.o (.val (.string r.1)), .o (.val (.bool r.2))]) []) (by kernel_rfl)
  (fun x y R k => by simp only [Option.bind_assoc, obS]) (fun x => Nat.le_of_ble_eq_true rfl) (fun y => rfl) zbq_subs fun x y => zbq_eq x.1 x.2.1 _ _
def zbq_w : CQ := liftV [] zbq_c
theorem zbq_ok : ValidQ Tryd.prog 100 zbq_w := liftV_valid zbq_val

/-! ### signet/decimal.run -/
def zad_b0 : IQ :=
 (.loop [0, 3]
  (.seq
  (.seq
  (.reg 19 none [
   oP 4 (.mv (.t 3)),
   oP 5 (.mv (.t 0)),
   oP 6 (.lenS (.t 5)),
   oP 7 (.bin false .lss (.t 4) (.t 6)),
   oP 8 (.mv (.t 7)),
   oG 9 (.mv (.t 0)) 8 true,
   oG 10 (.mv (.t 3)) 8 true,
   oG 11 (.index (.t 9) (.t 10)) 8 true,
   oG 12 (.bin false .geq (.t 11) (.v (.int .u8 48))) 8 true,
   oP 13 (.pick (.t 8) (.t 12) (.v (.bool false))),
   oP 14 (.mv (.t 13)),
   oG 15 (.mv (.t 0)) 14 true,
   oG 16 (.mv (.t 3)) 14 true,
   oG 17 (.index (.t 15) (.t 16)) 14 true,
   oG 18 (.bin false .leq (.t 17) (.v (.int .u8 57))) 14 true,
   oP 19 (.pick (.t 14) (.t 18) (.v (.bool false)))])
  (.cond (.t 19)
   .skip
   (.canon [] [3] (.exit 0))))
  (.block 1
   (.reg 3 none [
    oP 20 (.mv (.t 3)),
    oP 21 (.bin false .add (.t 20) (.v (.int .i64 1))),
    oP 3 (.mv (.t 21))]))))
def zad_q : IQ :=
 (.seq
 (.reg 2 none [
  oP 2 (.mv (.v (.int .i64 0)))])
 (.seq
 (.reg 3 none [
  oP 3 (.mv (.v (.int .i64 0)))])
 (.seq
 (.block 0
  (.canon [] [0, 3] (.sub 0 zad_b0)))
 (.seq
 (.reg 2 none [
  oP 22 (.mv (.t 3)),
  oP 2 (.mv (.t 22))])
 (.canon [] [2] .ret)))))
theorem zad_chk : chk Tryd.prog 101 [] = some (zad_q.erase, [.tmp 2], 23) := by kernel_rfl
def zad_p0_step (s : ByteArray) (n : Int) : Option (Int ⊕ Int) :=
 gd ((decide (n < (s.size : Int))) = true → 0 ≤ n ∧ n < s.size) <|
 gd (((decide (n < (s.size : Int))) && (decide ((48 : Int) ≤ (bAt s n)))) = true → 0 ≤ n ∧ n < s.size) <|
 bif (((decide (n < (s.size : Int))) && (decide ((48 : Int) ≤ (bAt s n)))) && (decide ((bAt s n) ≤ (57 : Int)))) then (
  gd (InI64 (n + (1 : Int))) <|
  some (.inl (n + (1 : Int))))
 else (
  some (.inr n))
def zad_p0 (s : ByteArray) (n : Int) : Option Int :=
 whileO (fun x : Int => zad_p0_step s x) n
def zad_s (s : ByteArray) : Option Int :=
 (zad_p0 s (0 : Int)).bind fun o1 =>
 some o1
def zad_G : Nat → Option CQ := tblQ []
theorem zad_Gok : ∀ f C, zad_G f = some C → ValidQ Tryd.prog f C := fun f C h => by cases h
def zad_d0 := (dQS (dCons (dSl 0 (dVC (dCO dS))) (dCons (dSl 3 (dVC (dCO (dI .i64)))) dNil)) dNil)
def zad_l0 : SubQ := fun S R kn kx kr => (Dec.d zad_d0 S).bind fun x => (zad_p0 x.1.1 x.1.2.1).bind fun r => kx 0 ⟨[(3, [], .c (.o (.val (.int .i64 r))))], [], []⟩
def zad_L : Nat → SubQ := tblL [(0, zad_l0)]
theorem zad_p0_eq (s : ByteArray) (n : Int) (R : Type) (kn : QS → Option R) (kx : Nat → QS → Option R) (kr : QS → Option R) :
  interpQ zad_L zad_G 0 4 23 zad_b0 ⟨[(0, [], .c (.o (.val (.string s)))), (3, [], .c (.o (.val (.int .i64 n))))], [], []⟩ kn kx kr = (zad_p0 s n).bind fun r => kx 0 ⟨[(3, [], .c (.o (.val (.int .i64 r))))], [], []⟩ := by
 refine loop_piece (step := fun x => zad_p0_step s x) (enc := fun x => ⟨[(0, [], .c (.o (.val (.string s)))), (3, [], .c (.o (.val (.int .i64 x))))], [], []⟩) (ko := fun r => kx 0 ⟨[(3, [], .c (.o (.val (.int .i64 r))))], [], []⟩) ?_ ?_ n
 ·intro x; kernel_rfl
 ·intro x ki; simp only [zad_p0_step, -eq_self, bind_cond, bind_gd, Option.bind_assoc, obS, Sum.elim_inl, Sum.elim_inr, bind_elim]; kernel_rfl
theorem zad_sub0 : SubOK zad_L zad_G 0 4 23 0 zad_b0 := sub_ok' zad_d0 (fun x R kn kx kr => (zad_p0 x.1.1 x.1.2.1).bind fun r => kx 0 ⟨[(3, [], .c (.o (.val (.int .i64 r))))], [], []⟩) (by kernel_rfl) fun x R kn kx kr => zad_p0_eq x.1.1 x.1.2.1 R kn kx kr
theorem zad_subs : subsOK zad_L zad_G 0 4 23 zad_q := subs_of (show AllSub zad_L zad_G 0 4 23 [(0, zad_b0)] from ⟨zad_sub0, trivial⟩)
theorem zad_eq (s : ByteArray) (R : Type) (k : SV → List SB → Option R) :
  fnQ zad_L zad_G 4 23 zad_q [.tmp 2] [.c (.o (.val (.string s)))] [] k = (zad_s s).bind fun r => k (.c (.o (.val (.int .i64 r)))) [] := by
 simp only [zad_s, -eq_self, bind_cond, bind_gd, Option.bind_assoc, obS, Sum.elim_inl, Sum.elim_inr, bind_elim]
 kernel_rfl
def zad_da := (dCons (dVC (dCO dS)) dNil)
def zad_db := (dNil : Dec Unit (List SB))
def zad_c : CS := fun args hp R k => (Dec.d zad_da args).bind fun x => (Dec.d zad_db hp).bind fun y => (zad_s x.1).bind fun r => k (.c (.o (.val (.int .i64 r)))) []
theorem zad_val : ValidS Tryd.prog 101 zad_c :=
 val_ok zad_chk 4 zad_Gok zad_da zad_db 0 (fun x y R k => (zad_s x.1).bind fun r => k (.c (.o (.val (.int .i64 r)))) []) (by kernel_rfl)
  (fun x y R k => by simp only [Option.bind_assoc, obS]) (fun x => Nat.le_of_ble_eq_true rfl) (fun y => rfl) zad_subs fun x y => zad_eq x.1 _ _
def zad_w : CQ := liftV [] zad_c
theorem zad_ok : ValidQ Tryd.prog 101 zad_w := liftV_valid zad_val

/-! ### strings.trimLeftByte -/
def zbu_b0 : IQ :=
 (.loop [0, 1]
  (.seq
  (.seq
  (.reg 13 none [
   oP 5 (.mv (.t 0)),
   oP 6 (.lenS (.t 5)),
   oP 7 (.bin false .gtr (.t 6) (.v (.int .i64 0))),
   oP 8 (.mv (.t 7)),
   oG 9 (.mv (.t 0)) 8 true,
   oG 10 (.index (.t 9) (.v (.int .i64 0))) 8 true,
   oG 11 (.mv (.t 1)) 8 true,
   oG 12 (.bin false .eql (.t 10) (.t 11)) 8 true,
   oP 13 (.pick (.t 8) (.t 12) (.v (.bool false)))])
  (.cond (.t 13)
   .skip
   (.canon [] [0] (.exit 0))))
  (.block 1
   (.reg 0 none [
    oP 14 (.mv (.t 0)),
    oP 15 (.sub none (.t 14) (some (.v (.int .i64 1))) none),
    oP 0 (.mv (.t 15))]))))
def zbu_q : IQ :=
 (.seq
 (.reg 4 none [
  oP 4 (.mv (.v (.string ⟨#[]⟩)))])
 (.seq
 (.block 0
  (.canon [] [0, 1] (.sub 0 zbu_b0)))
 (.seq
 (.reg 4 none [
  oP 16 (.mv (.t 0)),
  oP 4 (.mv (.t 16))])
 (.canon [] [4] .ret))))
theorem zbu_chk : chk Tryd.prog 112 [] = some (zbu_q.erase, [.tmp 4], 17) := by kernel_rfl
def zbu_p0_step (s : ByteArray) (c : Int) : Option (ByteArray ⊕ ByteArray) :=
 gd ((decide ((0 : Int) < (s.size : Int))) = true → 0 ≤ (0 : Int) ∧ (0 : Int) < s.size) <|
 bif ((decide ((0 : Int) < (s.size : Int))) && (decide ((bAt s (0 : Int)) = c))) then (
  gd (0 ≤ (1 : Int) ∧ (1 : Int) ≤ (s.size : Int) ∧ (s.size : Int) ≤ s.size) <|
  some (.inl (s.extract 1 s.size)))
 else (
  some (.inr s))
def zbu_p0 (s : ByteArray) (c : Int) : Option ByteArray :=
 whileO (fun x : ByteArray => zbu_p0_step x c) s
def zbu_s (s : ByteArray) (c : Int) : Option ByteArray :=
 (zbu_p0 s c).bind fun o1 =>
 some o1
def zbu_G : Nat → Option CQ := tblQ []
theorem zbu_Gok : ∀ f C, zbu_G f = some C → ValidQ Tryd.prog f C := fun f C h => by cases h
def zbu_d0 := (dQS (dCons (dSl 0 (dVC (dCO dS))) (dCons (dSl 1 (dVC (dCO (dI .u8)))) dNil)) dNil)
def zbu_l0 : SubQ := fun S R kn kx kr => (Dec.d zbu_d0 S).bind fun x => (zbu_p0 x.1.1 x.1.2.1).bind fun r => kx 0 ⟨[(0, [], .c (.o (.val (.string r))))], [], []⟩
def zbu_L : Nat → SubQ := tblL [(0, zbu_l0)]
theorem zbu_p0_eq (s : ByteArray) (c : Int) (R : Type) (kn : QS → Option R) (kx : Nat → QS → Option R) (kr : QS → Option R) :
  interpQ zbu_L zbu_G 0 5 17 zbu_b0 ⟨[(0, [], .c (.o (.val (.string s)))), (1, [], .c (.o (.val (.int .u8 c))))], [], []⟩ kn kx kr = (zbu_p0 s c).bind fun r => kx 0 ⟨[(0, [], .c (.o (.val (.string r))))], [], []⟩ := by
 refine loop_piece (step := fun x => zbu_p0_step x c) (enc := fun x => ⟨[(0, [], .c (.o (.val (.string x)))), (1, [], .c (.o (.val (.int .u8 c))))], [], []⟩) (ko := fun r => kx 0 ⟨[(0, [], .c (.o (.val (.string r))))], [], []⟩) ?_ ?_ s
 ·intro x; kernel_rfl
 ·intro x ki; simp only [zbu_p0_step, -eq_self, bind_cond, bind_gd, Option.bind_assoc, obS, Sum.elim_inl, Sum.elim_inr, bind_elim]; kernel_rfl
theorem zbu_sub0 : SubOK zbu_L zbu_G 0 5 17 0 zbu_b0 := sub_ok' zbu_d0 (fun x R kn kx kr => (zbu_p0 x.1.1 x.1.2.1).bind fun r => kx 0 ⟨[(0, [], .c (.o (.val (.string r))))], [], []⟩) (by kernel_rfl) fun x R kn kx kr => zbu_p0_eq x.1.1 x.1.2.1 R kn kx kr
theorem zbu_subs : subsOK zbu_L zbu_G 0 5 17 zbu_q := subs_of (show AllSub zbu_L zbu_G 0 5 17 [(0, zbu_b0)] from ⟨zbu_sub0, trivial⟩)
theorem zbu_eq (s : ByteArray) (c : Int) (R : Type) (k : SV → List SB → Option R) :
  fnQ zbu_L zbu_G 5 17 zbu_q [.tmp 4] [.c (.o (.val (.string s))), .c (.o (.val (.int .u8 c)))] [] k = (zbu_s s c).bind fun r => k (.c (.o (.val (.string r)))) [] := by
 simp only [zbu_s, -eq_self, bind_cond, bind_gd, Option.bind_assoc, obS, Sum.elim_inl, Sum.elim_inr, bind_elim]
 kernel_rfl
def zbu_da := (dCons (dVC (dCO dS)) (dCons (dVC (dCO (dI .u8))) dNil))
def zbu_db := (dNil : Dec Unit (List SB))
def zbu_c : CS := fun args hp R k => (Dec.d zbu_da args).bind fun x => (Dec.d zbu_db hp).bind fun y => (zbu_s x.1 x.2.1).bind fun r => k (.c (.o (.val (.string r)))) []
theorem zbu_val : ValidS Tryd.prog 112 zbu_c :=
 val_ok zbu_chk 5 zbu_Gok zbu_da zbu_db 0 (fun x y R k => (zbu_s x.1 x.2.1).bind fun r => k (.c (.o (.val (.string r)))) []) (by kernel_rfl)
  (fun x y R k => by simp only [Option.bind_assoc, obS]) (fun x => Nat.le_of_ble_eq_true rfl) (fun y => rfl) zbu_subs fun x y => zbu_eq x.1 x.2.1 _ _
def zbu_w : CQ := liftV [] zbu_c
theorem zbu_ok : ValidQ Tryd.prog 112 zbu_w := liftV_valid zbu_val

/-! ### strings.TrimLeft -/
def zbs_q : IQ :=
 (.seq
 (.reg 4 none [
  oP 4 (.mv (.v (.string ⟨#[]⟩)))])
 (.seq
 (.seq
 (.reg 12 none [
  oP 7 (.mv (.t 0)),
  oP 8 (.bin false .eql (.t 7) (.v (.string ⟨#[]⟩))),
  oP 9 (.mv (.t 8)),
  oG 10 (.mv (.t 1)) 9 false,
  oG 11 (.bin false .eql (.t 10) (.v (.string ⟨#[]⟩))) 9 false,
  oP 12 (.pick (.t 9) (.v (.bool true)) (.t 11))])
 (.cond (.t 12)
  (.seq
  (.reg 4 none [
   oP 13 (.mv (.t 0)),
   oP 4 (.mv (.t 13))])
  (.canon [] [4] .ret))
  .skip))
 (.seq
 (.seq
 (.reg 21 none [
  oP 14 (.mv (.t 1)),
  oP 15 (.lenS (.t 14)),
  oP 16 (.bin false .eql (.t 15) (.v (.int .i64 1))),
  oP 17 (.mv (.t 16)),
  oG 18 (.mv (.t 1)) 17 true,
  oG 19 (.index (.t 18) (.v (.int .i64 0))) 17 true,
  oG 20 (.bin false .lss (.t 19) (.v (.int .u8 128))) 17 true,
  oP 21 (.pick (.t 17) (.t 20) (.v (.bool false)))])
 (.cond (.t 21)
  (.seq
  (.reg 4 none [
   oP 22 (.mv (.t 0)),
   oP 23 (.mv (.t 1)),
   oP 24 (.index (.t 23) (.v (.int .i64 0))),
   oP 25 (.call 112 [(.t 22), (.t 24)]),
   oP 4 (.mv (.t 25))])
  (.canon [] [4] .ret))
  .skip))
 (.seq
 (.seq
 (.reg 6 none [
  oP 27 (.mv (.t 1)),
  oP 28 (.call 113 [(.t 27)]),
  oP 26 (.mv (.t 28)),
  oP 29 (.extract (.t 26) 0),
  oP 30 (.extract (.t 26) 1),
  oP 5 (.alloc 154 [.bool false, .bool false, .bool false, .bool false, .bool false, .bool false, .bool false, .bool false, .bool false, .bool false, .bool false, .bool false, .bool false, .bool false, .bool false, .bool false, .bool false, .bool false, .bool false, .bool false, .bool false, .bool false, .bool false, .bool false, .bool false, .bool false, .bool false, .bool false, .bool false, .bool false, .bool false, .bool false, .bool false, .bool false, .bool false, .bool false, .bool false, .bool false, .bool false, .bool false, .bool false, .bool false, .bool false, .bool false, .bool false, .bool false, .bool false, .bool false, .bool false, .bool false, .bool false, .bool false, .bool false, .bool false, .bool false, .bool false, .bool false, .bool false, .bool false, .bool false, .bool false, .bool false, .bool false, .bool false, .bool false, .bool false, .bool false, .bool false, .bool false, .bool false, .bool false, .bool false, .bool false, .bool false, .bool false, .bool false, .bool false, .bool false, .bool false, .bool false, .bool false, .bool false, .bool false, .bool false, .bool false, .bool false, .bool false, .bool false, .bool false, .bool false, .bool false, .bool false, .bool false, .bool false, .bool false, .bool false, .bool false, .bool false, .bool false, .bool false, .bool false, .bool false, .bool false, .bool false, .bool false, .bool false, .bool false, .bool false, .bool false, .bool false, .bool false, .bool false, .bool false, .bool false, .bool false, .bool false, .bool false, .bool false, .bool false, .bool false, .bool false, .bool false, .bool false, .bool false, .bool false, .bool false, .bool false, .bool false, .bool false, .bool false, .bool false, .bool false, .bool false, .bool false, .bool false, .bool false, .bool false, .bool false, .bool false, .bool false, .bool false, .bool false, .bool false, .bool false, .bool false, .bool false, .bool false, .bool false, .bool false, .bool false, .bool false, .bool false, .bool false, .bool false, .bool false, .bool false, .bool false, .bool false, .bool false, .bool false, .bool false, .bool false, .bool false, .bool false, .bool false, .bool false, .bool false, .bool false, .bool false, .bool false, .bool false, .bool false, .bool false, .bool false, .bool false, .bool false, .bool false, .bool false, .bool false, .bool false, .bool false, .bool false, .bool false, .bool false, .bool false, .bool false, .bool false, .bool false, .bool false, .bool false, .bool false, .bool false, .bool false, .bool false, .bool false, .bool false, .bool false, .bool false, .bool false, .bool false, .bool false, .bool false, .bool false, .bool false, .bool false, .bool false, .bool false, .bool false, .bool false, .bool false, .bool false, .bool false, .bool false, .bool false, .bool false, .bool false, .bool false, .bool false, .bool false, .bool false, .bool false, .bool false, .bool false, .bool false, .bool false, .bool false, .bool false, .bool false, .bool false, .bool false, .bool false, .bool false, .bool false, .bool false, .bool false, .bool false, .bool false, .bool false, .bool false, .bool false, .bool false, .bool false, .bool false, .bool false, .bool false, .bool false, .bool false, .bool false, .bool false, .bool false, .bool false, .bool false, .bool false, .bool false, .bool false, .bool false]),
  ⟨none, .store 256 (.t 5) (.t 29), none⟩,
  oP 6 (.mv (.t 30))])
 (.seq
 (.reg 31 none [
  oP 31 (.mv (.t 6))])
 (.cond (.t 31)
  (.seq
  (.reg 4 none [
   oP 32 (.mv (.t 0)),
   oP 33 (.call 114 [(.t 32), (.t 5)]),
   oP 4 (.mv (.t 33))])
  (.canon [] [4] .ret))
  .skip)))
 (.seq
 (.reg 4 none [
  oP 34 (.mv (.t 0)),
  oP 35 (.mv (.t 1)),
  oP 36 (.call 115 [(.t 34), (.t 35)]),
  oP 4 (.mv (.t 36))])
 (.canon [] [4] .ret))))))
theorem zbs_chk : chk Tryd.prog 102 [] = some (zbs_q.erase, [.tmp 4], 37) := by kernel_rfl
def zbs_s (s : ByteArray) (cutset : ByteArray) : Option ByteArray :=
 bif ((decide (s = (⟨#[]⟩ : ByteArray))) || (decide (cutset = (⟨#[]⟩ : ByteArray)))) then (
  some s)
 else (
  gd ((decide ((cutset.size : Int) = (1 : Int))) = true → 0 ≤ (0 : Int) ∧ (0 : Int) < cutset.size) <|
  bif ((decide ((cutset.size : Int) = (1 : Int))) && (decide ((bAt cutset (0 : Int)) < (128 : Int)))) then (
   gd (0 ≤ (0 : Int) ∧ (0 : Int) < cutset.size) <|
   (zbu_s s (bAt cutset (0 : Int))).bind fun r1 =>
   some r1)
  else (
   none))
def zbs_G : Nat → Option CQ := tblQ [(112, zbu_w)]
theorem zbs_Gok : ∀ f C, zbs_G f = some C → ValidQ Tryd.prog f C := tblQ_valid ⟨zbu_ok, trivial⟩
def zbs_L : Nat → SubQ := tblL []
theorem zbs_subs : subsOK zbs_L zbs_G 0 7 37 zbs_q := subs_of (show AllSub zbs_L zbs_G 0 7 37 [] from trivial)
theorem zbs_eq (s : ByteArray) (cutset : ByteArray) (R : Type) (k : SV → List SB → Option R) :
  fnQ zbs_L zbs_G 7 37 zbs_q [.tmp 4] [.c (.o (.val (.string s))), .c (.o (.val (.string cutset)))] [] k = (zbs_s s cutset).bind fun r => k (.c (.o (.val (.string r)))) [] := by
 simp only [zbs_s, -eq_self, bind_cond, bind_gd, Option.bind_assoc, obS, Sum.elim_inl, Sum.elim_inr, bind_elim]
 kernel_rfl
def zbs_da := (dCons (dVC (dCO dS)) (dCons (dVC (dCO dS)) dNil))
def zbs_db := (dNil : Dec Unit (List SB))
def zbs_c : CS := fun args hp R k => (Dec.d zbs_da args).bind fun x => (Dec.d zbs_db hp).bind fun y => (zbs_s x.1 x.2.1).bind fun r => k (.c (.o (.val (.string r)))) []
theorem zbs_val : ValidS Tryd.prog 102 zbs_c :=
 val_ok zbs_chk 7 zbs_Gok zbs_da zbs_db 0 (fun x y R k => (zbs_s x.1 x.2.1).bind fun r => k (.c (.o (.val (.string r)))) []) (by kernel_rfl)
  (fun x y R k => by simp only [Option.bind_assoc, obS]) (fun x => Nat.le_of_ble_eq_true rfl) (fun y => rfl) zbs_subs fun x y => zbs_eq x.1 x.2.1 _ _
def zbs_w : CQ := liftV [] zbs_c
theorem zbs_ok : ValidQ Tryd.prog 102 zbs_w := liftV_valid zbs_val

/-! ### strings.trimRightByte -/
def zbv_b0 : IQ :=
 (.loop [0, 1]
  (.seq
  (.seq
  (.reg 16 none [
   oP 5 (.mv (.t 0)),
   oP 6 (.lenS (.t 5)),
   oP 7 (.bin false .gtr (.t 6) (.v (.int .i64 0))),
   oP 8 (.mv (.t 7)),
   oG 9 (.mv (.t 0)) 8 true,
   oG 10 (.mv (.t 0)) 8 true,
   oG 11 (.lenS (.t 10)) 8 true,
   oG 12 (.bin false .sub (.t 11) (.v (.int .i64 1))) 8 true,
   oG 13 (.index (.t 9) (.t 12)) 8 true,
   oG 14 (.mv (.t 1)) 8 true,
   oG 15 (.bin false .eql (.t 13) (.t 14)) 8 true,
   oP 16 (.pick (.t 8) (.t 15) (.v (.bool false)))])
  (.cond (.t 16)
   .skip
   (.canon [] [0] (.exit 0))))
  (.block 1
   (.reg 0 none [
    oP 17 (.mv (.t 0)),
    oP 18 (.mv (.t 0)),
    oP 19 (.lenS (.t 18)),
    oP 20 (.bin false .sub (.t 19) (.v (.int .i64 1))),
    oP 21 (.sub none (.t 17) none (some (.t 20))),
    oP 0 (.mv (.t 21))]))))
def zbv_q : IQ :=
 (.seq
 (.reg 4 none [
  oP 4 (.mv (.v (.string ⟨#[]⟩)))])
 (.seq
 (.block 0
  (.canon [] [0, 1] (.sub 0 zbv_b0)))
 (.seq
 (.reg 4 none [
  oP 22 (.mv (.t 0)),
  oP 4 (.mv (.t 22))])
 (.canon [] [4] .ret))))
theorem zbv_chk : chk Tryd.prog 116 [] = some (zbv_q.erase, [.tmp 4], 23) := by kernel_rfl
def zbv_p0_step (s : ByteArray) (c : Int) : Option (ByteArray ⊕ ByteArray) :=
 gd ((decide ((0 : Int) < (s.size : Int))) = true → InI64 ((s.size : Int) - (1 : Int))) <|
 gd ((decide ((0 : Int) < (s.size : Int))) = true → 0 ≤ ((s.size : Int) - (1 : Int)) ∧ ((s.size : Int) - (1 : Int)) < s.size) <|
 bif ((decide ((0 : Int) < (s.size : Int))) && (decide ((bAt s ((s.size : Int) - (1 : Int))) = c))) then (
  gd (InI64 ((s.size : Int) - (1 : Int))) <|
  gd (0 ≤ (0 : Int) ∧ (0 : Int) ≤ ((s.size : Int) - (1 : Int)) ∧ ((s.size : Int) - (1 : Int)) ≤ s.size) <|
  some (.inl (s.extract 0 (Int.toNat ((s.size : Int) - (1 : Int))))))
 else (
  some (.inr s))
def zbv_p0 (s : ByteArray) (c : Int) : Option ByteArray :=
 whileO (fun x : ByteArray => zbv_p0_step x c) s
def zbv_s (s : ByteArray) (c : Int) : Option ByteArray :=
 (zbv_p0 s c).bind fun o1 =>
 some o1
def zbv_G : Nat → Option CQ := tblQ []
theorem zbv_Gok : ∀ f C, zbv_G f = some C → ValidQ Tryd.prog f C := fun f C h => by cases h
def zbv_d0 := (dQS (dCons (dSl 0 (dVC (dCO dS))) (dCons (dSl 1 (dVC (dCO (dI .u8)))) dNil)) dNil)
def zbv_l0 : SubQ := fun S R kn kx kr => (Dec.d zbv_d0 S).bind fun x => (zbv_p0 x.1.1 x.1.2.1).bind fun r => kx 0 ⟨[(0, [], .c (.o (.val (.string r))))], [], []⟩
def zbv_L : Nat → SubQ := tblL [(0, zbv_l0)]
theorem zbv_p0_eq (s : ByteArray) (c : Int) (R : Type) (kn : QS → Option R) (kx : Nat → QS → Option R) (kr : QS → Option R) :
  interpQ zbv_L zbv_G 0 5 23 zbv_b0 ⟨[(0, [], .c (.o (.val (.string s)))), (1, [], .c (.o (.val (.int .u8 c))))], [], []⟩ kn kx kr = (zbv_p0 s c).bind fun r => kx 0 ⟨[(0, [], .c (.o (.val (.string r))))], [], []⟩ := by
 refine loop_piece (step := fun x => zbv_p0_step x c) (enc := fun x => ⟨[(0, [], .c (.o (.val (.string x)))), (1, [], .c (.o (.val (.int .u8 c))))], [], []⟩) (ko := fun r => kx 0 ⟨[(0, [], .c (.o (.val (.string r))))], [], []⟩) ?_ ?_ s
 ·intro x; kernel_rfl
 ·intro x ki; simp only [zbv_p0_step, -eq_self, bind_cond, bind_gd, Option.bind_assoc, obS, Sum.elim_inl, Sum.elim_inr, bind_elim]; kernel_rfl
theorem zbv_sub0 : SubOK zbv_L zbv_G 0 5 23 0 zbv_b0 := sub_ok' zbv_d0 (fun x R kn kx kr => (zbv_p0 x.1.1 x.1.2.1).bind fun r => kx 0 ⟨[(0, [], .c (.o (.val (.string r))))], [], []⟩) (by kernel_rfl) fun x R kn kx kr => zbv_p0_eq x.1.1 x.1.2.1 R kn kx kr
theorem zbv_subs : subsOK zbv_L zbv_G 0 5 23 zbv_q := subs_of (show AllSub zbv_L zbv_G 0 5 23 [(0, zbv_b0)] from ⟨zbv_sub0, trivial⟩)
theorem zbv_eq (s : ByteArray) (c : Int) (R : Type) (k : SV → List SB → Option R) :
  fnQ zbv_L zbv_G 5 23 zbv_q [.tmp 4] [.c (.o (.val (.string s))), .c (.o (.val (.int .u8 c)))] [] k = (zbv_s s c).bind fun r => k (.c (.o (.val (.string r)))) [] := by
 simp only [zbv_s, -eq_self, bind_cond, bind_gd, Option.bind_assoc, obS, Sum.elim_inl, Sum.elim_inr, bind_elim]
 kernel_rfl
def zbv_da := (dCons (dVC (dCO dS)) (dCons (dVC (dCO (dI .u8))) dNil))
def zbv_db := (dNil : Dec Unit (List SB))
def zbv_c : CS := fun args hp R k => (Dec.d zbv_da args).bind fun x => (Dec.d zbv_db hp).bind fun y => (zbv_s x.1 x.2.1).bind fun r => k (.c (.o (.val (.string r)))) []
theorem zbv_val : ValidS Tryd.prog 116 zbv_c :=
 val_ok zbv_chk 5 zbv_Gok zbv_da zbv_db 0 (fun x y R k => (zbv_s x.1 x.2.1).bind fun r => k (.c (.o (.val (.string r)))) []) (by kernel_rfl)
  (fun x y R k => by simp only [Option.bind_assoc, obS]) (fun x => Nat.le_of_ble_eq_true rfl) (fun y => rfl) zbv_subs fun x y => zbv_eq x.1 x.2.1 _ _
def zbv_w : CQ := liftV [] zbv_c
theorem zbv_ok : ValidQ Tryd.prog 116 zbv_w := liftV_valid zbv_val

/-! ### strings.TrimRight -/
def zbt_q : IQ :=
 (.seq
 (.reg 4 none [
  oP 4 (.mv (.v (.string ⟨#[]⟩)))])
 (.seq
 (.seq
 (.reg 12 none [
  oP 7 (.mv (.t 0)),
  oP 8 (.bin false .eql (.t 7) (.v (.string ⟨#[]⟩))),
  oP 9 (.mv (.t 8)),
  oG 10 (.mv (.t 1)) 9 false,
  oG 11 (.bin false .eql (.t 10) (.v (.string ⟨#[]⟩))) 9 false,
  oP 12 (.pick (.t 9) (.v (.bool true)) (.t 11))])
 (.cond (.t 12)
  (.seq
  (.reg 4 none [
   oP 13 (.mv (.t 0)),
   oP 4 (.mv (.t 13))])
  (.canon [] [4] .ret))
  .skip))
 (.seq
 (.seq
 (.reg 21 none [
  oP 14 (.mv (.t 1)),
  oP 15 (.lenS (.t 14)),
  oP 16 (.bin false .eql (.t 15) (.v (.int .i64 1))),
  oP 17 (.mv (.t 16)),
  oG 18 (.mv (.t 1)) 17 true,
  oG 19 (.index (.t 18) (.v (.int .i64 0))) 17 true,
  oG 20 (.bin false .lss (.t 19) (.v (.int .u8 128))) 17 true,
  oP 21 (.pick (.t 17) (.t 20) (.v (.bool false)))])
 (.cond (.t 21)
  (.seq
  (.reg 4 none [
   oP 22 (.mv (.t 0)),
   oP 23 (.mv (.t 1)),
   oP 24 (.index (.t 23) (.v (.int .i64 0))),
   oP 25 (.call 116 [(.t 22), (.t 24)]),
   oP 4 (.mv (.t 25))])
  (.canon [] [4] .ret))
  .skip))
 (.seq
 (.seq
 (.reg 6 none [
  oP 27 (.mv (.t 1)),
  oP 28 (.call 113 [(.t 27)]),
  oP 26 (.mv (.t 28)),
  oP 29 (.extract (.t 26) 0),
  oP 30 (.extract (.t 26) 1),
  oP 5 (.alloc 154 [.bool false, .bool false, .bool false, .bool false, .bool false, .bool false, .bool false, .bool false, .bool false, .bool false, .bool false, .bool false, .bool false, .bool false, .bool false, .bool false, .bool false, .bool false, .bool false, .bool false, .bool false, .bool false, .bool false, .bool false, .bool false, .bool false, .bool false, .bool false, .bool false, .bool false, .bool false, .bool false, .bool false, .bool false, .bool false, .bool false, .bool false, .bool false, .bool false, .bool false, .bool false, .bool false, .bool false, .bool false, .bool false, .bool false, .bool false, .bool false, .bool false, .bool false, .bool false, .bool false, .bool false, .bool false, .bool false, .bool false, .bool false, .bool false, .bool false, .bool false, .bool false, .bool false, .bool false, .bool false, .bool false, .bool false, .bool false, .bool false, .bool false, .bool false, .bool false, .bool false, .bool false, .bool false, .bool false, .bool false, .bool false, .bool false, .bool false, .bool false, .bool false, .bool false, .bool false, .bool false, .bool false, .bool false, .bool false, .bool false, .bool false, .bool false, .bool false, .bool false, .bool false, .bool false, .bool false, .bool false, .bool false, .bool false, .bool false, .bool false, .bool false, .bool false, .bool false, .bool false, .bool false, .bool false, .bool false, .bool false, .bool false, .bool false, .bool false, .bool false, .bool false, .bool false, .bool false, .bool false, .bool false, .bool false, .bool false, .bool false, .bool false, .bool false, .bool false, .bool false, .bool false, .bool false, .bool false, .bool false, .bool false, .bool false, .bool false, .bool false, .bool false, .bool false, .bool false, .bool false, .bool false, .bool false, .bool false, .bool false, .bool false, .bool false, .bool false, .bool false, .bool false, .bool false, .bool false, .bool false, .bool false, .bool false, .bool false, .bool false, .bool false, .bool false, .bool false, .bool false, .bool false, .bool false, .bool false, .bool false, .bool false, .bool false, .bool false, .bool false, .bool false, .bool false, .bool false, .bool false, .bool false, .bool false, .bool false, .bool false, .bool false, .bool false, .bool false, .bool false, .bool false, .bool false, .bool false, .bool false, .bool false, .bool false, .bool false, .bool false, .bool false, .bool false, .bool false, .bool false, .bool false, .bool false, .bool false, .bool false, .bool false, .bool false, .bool false, .bool false, .bool false, .bool false, .bool false, .bool false, .bool false, .bool false, .bool false, .bool false, .bool false, .bool false, .bool false, .bool false, .bool false, .bool false, .bool false, .bool false, .bool false, .bool false, .bool false, .bool false, .bool false, .bool false, .bool false, .bool false, .bool false, .bool false, .bool false, .bool false, .bool false, .bool false, .bool false, .bool false, .bool false, .bool false, .bool false, .bool false, .bool false, .bool false, .bool false, .bool false, .bool false, .bool false, .bool false, .bool false, .bool false, .bool false, .bool false, .bool false, .bool false, .bool false, .bool false, .bool false, .bool false, .bool false, .bool false, .bool false, .bool false, .bool false, .bool false, .bool false]),
  ⟨none, .store 256 (.t 5) (.t 29), none⟩,
  oP 6 (.mv (.t 30))])
 (.seq
 (.reg 31 none [
  oP 31 (.mv (.t 6))])
 (.cond (.t 31)
  (.seq
  (.reg 4 none [
   oP 32 (.mv (.t 0)),
   oP 33 (.call 117 [(.t 32), (.t 5)]),
   oP 4 (.mv (.t 33))])
  (.canon [] [4] .ret))
  .skip)))
 (.seq
 (.reg 4 none [
  oP 34 (.mv (.t 0)),
  oP 35 (.mv (.t 1)),
  oP 36 (.call 118 [(.t 34), (.t 35)]),
  oP 4 (.mv (.t 36))])
 (.canon [] [4] .ret))))))
theorem zbt_chk : chk Tryd.prog 103 [] = some (zbt_q.erase, [.tmp 4], 37) := by kernel_rfl
def zbt_s (s : ByteArray) (cutset : ByteArray) : Option ByteArray :=
 bif ((decide (s = (⟨#[]⟩ : ByteArray))) || (decide (cutset = (⟨#[]⟩ : ByteArray)))) then (
  some s)
 else (
  gd ((decide ((cutset.size : Int) = (1 : Int))) = true → 0 ≤ (0 : Int) ∧ (0 : Int) < cutset.size) <|
  bif ((decide ((cutset.size : Int) = (1 : Int))) && (decide ((bAt cutset (0 : Int)) < (128 : Int)))) then (
   gd (0 ≤ (0 : Int) ∧ (0 : Int) < cutset.size) <|
   (zbv_s s (bAt cutset (0 : Int))).bind fun r1 =>
   some r1)
  else (
   none))
def zbt_G : Nat → Option CQ := tblQ [(116, zbv_w)]
theorem zbt_Gok : ∀ f C, zbt_G f = some C → ValidQ Tryd.prog f C := tblQ_valid ⟨zbv_ok, trivial⟩
def zbt_L : Nat → SubQ := tblL []
theorem zbt_subs : subsOK zbt_L zbt_G 0 7 37 zbt_q := subs_of (show AllSub zbt_L zbt_G 0 7 37 [] from trivial)
theorem zbt_eq (s : ByteArray) (cutset : ByteArray) (R : Type) (k : SV → List SB → Option R) :
  fnQ zbt_L zbt_G 7 37 zbt_q [.tmp 4] [.c (.o (.val (.string s))), .c (.o (.val (.string cutset)))] [] k = (zbt_s s cutset).bind fun r => k (.c (.o (.val (.string r)))) [] := by
 simp only [zbt_s, -eq_self, bind_cond, bind_gd, Option.bind_assoc, obS, Sum.elim_inl, Sum.elim_inr, bind_elim]
 kernel_rfl
def zbt_da := (dCons (dVC (dCO dS)) (dCons (dVC (dCO dS)) dNil))
def zbt_db := (dNil : Dec Unit (List SB))
def zbt_c : CS := fun args hp R k => (Dec.d zbt_da args).bind fun x => (Dec.d zbt_db hp).bind fun y => (zbt_s x.1 x.2.1).bind fun r => k (.c (.o (.val (.string r)))) []
theorem zbt_val : ValidS Tryd.prog 103 zbt_c :=
 val_ok zbt_chk 7 zbt_Gok zbt_da zbt_db 0 (fun x y R k => (zbt_s x.1 x.2.1).bind fun r => k (.c (.o (.val (.string r)))) []) (by kernel_rfl)
  (fun x y R k => by simp only [Option.bind_assoc, obS]) (fun x => Nat.le_of_ble_eq_true rfl) (fun y => rfl) zbt_subs fun x y => zbt_eq x.1 x.2.1 _ _
def zbt_w : CQ := liftV [] zbt_c
theorem zbt_ok : ValidQ Tryd.prog 103 zbt_w := liftV_valid zbt_val

/-! ### signet/decimal.read -/
def zac_b0 : IQ :=
 (.join [] [0, 4, 6, 7]
 (.seq
 (.reg 8 none [
  oP 29 (.mv (.t 0)),
  oP 30 (.call 101 [(.t 29)]),
  oP 8 (.mv (.t 30))])
 (.seq
 (.seq
 (.reg 41 none [
  oP 31 (.mv (.t 8)),
  oP 32 (.bin false .eql (.t 31) (.v (.int .i64 0))),
  oP 33 (.mv (.t 32)),
  oG 34 (.mv (.t 8)) 33 false,
  oG 35 (.bin false .gtr (.t 34) (.v (.int .i64 1))) 33 false,
  oG 36 (.mv (.t 35)) 33 false,
  oG 37 (.mv (.t 0)) 36 true,
  oG 38 (.index (.t 37) (.v (.int .i64 0))) 36 true,
  oG 39 (.bin false .eql (.t 38) (.v (.int .u8 48))) 36 true,
  oG 40 (.pick (.t 36) (.t 39) (.v (.bool false))) 33 false,
  oP 41 (.pick (.t 33) (.v (.bool true)) (.t 40))])
 (.cond (.t 41)
  (.seq
  (.reg 5 none [
   oP 42 (.load (some 7) (.t 6)),
   ⟨none, .store 7 (.t 4) (.t 42), none⟩,
   oP 5 (.mv (.v (.bool false)))])
  (.canon [] [4, 5] .ret))
  .skip))
 (.reg 0 (some [0, 1, 2, 3, 4, 5, 6, 7, 8]) [
  oP 43 (.mv (.t 0)),
  oP 44 (.mv (.t 8)),
  oP 45 (.sub none (.t 43) none (some (.t 44))),
  oP 46 (.mv (.t 0)),
  oP 47 (.mv (.t 8)),
  oP 48 (.sub none (.t 46) (some (.t 47)) none),
  oP 49 (.faddr 1 (.t 6)),
  ⟨none, .store 1 (.t 49) (.t 45), none⟩,
  oP 0 (.mv (.t 48))]))))
def zac_b1 : IQ :=
 (.join [] [0, 4, 6, 7]
 (.seq
 (.reg 10 none [
  oP 51 (.mv (.t 0)),
  oP 52 (.call 100 [(.t 51), (.v (.string ⟨#[46]⟩))]),
  oP 50 (.mv (.t 52)),
  oP 53 (.extract (.t 50) 0),
  oP 54 (.extract (.t 50) 1),
  oP 9 (.mv (.t 53)),
  oP 10 (.mv (.t 54))])
 (.seq
 (.reg 55 none [
  oP 55 (.mv (.t 10))])
 (.cond (.t 55)
  (.seq
  (.reg 11 none [
   oP 56 (.mv (.t 9)),
   oP 57 (.call 101 [(.t 56)]),
   oP 11 (.mv (.t 57))])
  (.seq
  (.seq
  (.reg 59 none [
   oP 58 (.mv (.t 11)),
   oP 59 (.bin false .eql (.t 58) (.v (.int .i64 0)))])
  (.cond (.t 59)
   (.seq
   (.reg 5 none [
    oP 60 (.load (some 7) (.t 6)),
    ⟨none, .store 7 (.t 4) (.t 60), none⟩,
    oP 5 (.mv (.v (.bool false)))])
   (.canon [] [4, 5] .ret))
   .skip))
  (.reg 0 (some [0, 1, 2, 3, 4, 5, 6, 7, 8, 9]) [
   oP 61 (.mv (.t 9)),
   oP 62 (.mv (.t 11)),
   oP 63 (.sub none (.t 61) none (some (.t 62))),
   oP 64 (.mv (.t 9)),
   oP 65 (.mv (.t 11)),
   oP 66 (.sub none (.t 64) (some (.t 65)) none),
   oP 67 (.faddr 4 (.t 6)),
   ⟨none, .store 1 (.t 67) (.v (.bool false)), none⟩,
   oP 7 (.mv (.t 63)),
   oP 0 (.mv (.t 66))])))
  .skip))))
def zac_b3 : IQ :=
 (.join [] [0, 4, 6, 7]
 (.seq
 (.seq
 (.reg 104 none [
  oP 96 (.mv (.t 0)),
  oP 97 (.bin false .eql (.t 96) (.v (.string ⟨#[]⟩))),
  oP 98 (.mv (.t 97)),
  oG 99 (.mv (.t 0)) 98 false,
  oG 100 (.call 101 [(.t 99)]) 98 false,
  oG 101 (.mv (.t 0)) 98 false,
  oG 102 (.lenS (.t 101)) 98 false,
  oG 103 (.bin false .neq (.t 100) (.t 102)) 98 false,
  oP 104 (.pick (.t 98) (.v (.bool true)) (.t 103))])
 (.cond (.t 104)
  (.seq
  (.reg 5 none [
   oP 105 (.load (some 7) (.t 6)),
   ⟨none, .store 7 (.t 4) (.t 105), none⟩,
   oP 5 (.mv (.v (.bool false)))])
  (.canon [] [4, 5] .ret))
  .skip))
 (.reg 0 none [
  oP 106 (.mv (.t 0)),
  oP 107 (.call 102 [(.t 106), (.v (.string ⟨#[48]⟩))]),
  oP 108 (.faddr 4 (.t 6)),
  ⟨none, .store 1 (.t 108) (.v (.bool false)), none⟩,
  oP 109 (.faddr 6 (.t 6)),
  ⟨none, .store 1 (.t 109) (.t 107), none⟩,
  oP 0 (.mv (.v (.string ⟨#[]⟩)))])))
def zac_b2 : IQ :=
 (.seq
 (.seq
 (.reg 75 none [
  oP 68 (.mv (.t 0)),
  oP 69 (.bin false .neq (.t 68) (.v (.string ⟨#[]⟩))),
  oP 70 (.mv (.t 69)),
  oG 71 (.mv (.t 0)) 70 true,
  oG 72 (.index (.t 71) (.v (.int .i64 0))) 70 true,
  oG 73 (.bin false .or (.t 72) (.v (.int .u8 32))) 70 true,
  oG 74 (.bin false .eql (.t 73) (.v (.int .u8 101))) 70 true,
  oP 75 (.pick (.t 70) (.t 74) (.v (.bool false)))])
 (.cond (.t 75)
  (.seq
  (.reg 0 none [
   oP 76 (.mv (.t 0)),
   oP 77 (.sub none (.t 76) (some (.v (.int .i64 1))) none),
   oP 0 (.mv (.t 77))])
  (.seq
  (.seq
  (.reg 89 none [
   oP 78 (.mv (.t 0)),
   oP 79 (.bin false .neq (.t 78) (.v (.string ⟨#[]⟩))),
   oP 80 (.mv (.t 79)),
   oG 81 (.mv (.t 0)) 80 true,
   oG 82 (.index (.t 81) (.v (.int .i64 0))) 80 true,
   oG 83 (.bin false .eql (.t 82) (.v (.int .u8 43))) 80 true,
   oG 84 (.mv (.t 83)) 80 true,
   oG 85 (.mv (.t 0)) 84 false,
   oG 86 (.index (.t 85) (.v (.int .i64 0))) 84 false,
   oG 87 (.bin false .eql (.t 86) (.v (.int .u8 45))) 84 false,
   oG 88 (.pick (.t 84) (.v (.bool true)) (.t 87)) 80 true,
   oP 89 (.pick (.t 80) (.t 88) (.v (.bool false)))])
  (.cond (.t 89)
   (.reg 0 (some [0, 1, 2, 3, 4, 5, 6, 7]) [
    oP 90 (.mv (.t 0)),
    oP 91 (.index (.t 90) (.v (.int .i64 0))),
    oP 92 (.bin false .eql (.t 91) (.v (.int .u8 45))),
    oP 93 (.mv (.t 0)),
    oP 94 (.sub none (.t 93) (some (.v (.int .i64 1))) none),
    oP 95 (.faddr 5 (.t 6)),
    ⟨none, .store 1 (.t 95) (.t 92), none⟩,
    oP 0 (.mv (.t 94))])
   .skip))
  (.canon [] [0, 4, 6, 7] (.sub 3 zac_b3))))
  .skip))
 (.canon [] [0, 4, 6, 7] (.exit 0)))
def zac_b4 : IQ :=
 (.seq
 (.reg 12 none [
  oP 110 (.faddr 1 (.t 6)),
  oP 111 (.load none (.t 110)),
  oP 112 (.mv (.t 7)),
  oP 113 (.bin false .add (.t 111) (.t 112)),
  oP 12 (.mv (.t 113))])
 (.seq
 (.reg 0 none [
  oP 114 (.mv (.t 12)),
  oP 115 (.call 102 [(.t 114), (.v (.string ⟨#[48]⟩))]),
  oP 116 (.faddr 2 (.t 6)),
  ⟨none, .store 1 (.t 116) (.t 115), none⟩])
 (.seq
 (.reg 0 none [
  oP 117 (.faddr 1 (.t 6)),
  oP 118 (.load none (.t 117)),
  oP 119 (.lenS (.t 118)),
  oP 120 (.mv (.t 12)),
  oP 121 (.lenS (.t 120)),
  oP 122 (.faddr 2 (.t 6)),
  oP 123 (.load none (.t 122)),
  oP 124 (.lenS (.t 123)),
  oP 125 (.bin false .sub (.t 121) (.t 124)),
  oP 126 (.bin false .sub (.t 119) (.t 125)),
  oP 127 (.faddr 3 (.t 6)),
  ⟨none, .store 1 (.t 127) (.t 126), none⟩])
 (.seq
 (.reg 0 none [
  oP 128 (.faddr 2 (.t 6)),
  oP 129 (.load none (.t 128)),
  oP 130 (.call 103 [(.t 129), (.v (.string ⟨#[48]⟩))]),
  oP 131 (.faddr 2 (.t 6)),
  ⟨none, .store 1 (.t 131) (.t 130), none⟩])
 (.seq
 (.seq
 (.reg 134 none [
  oP 132 (.faddr 6 (.t 6)),
  oP 133 (.load none (.t 132)),
  oP 134 (.bin false .eql (.t 133) (.v (.string ⟨#[]⟩)))])
 (.cond (.t 134)
  (.reg 0 none [
   oP 135 (.faddr 5 (.t 6)),
   ⟨none, .store 1 (.t 135) (.v (.bool false)), none⟩])
  .skip))
 (.seq
 (.reg 5 none [
  oP 136 (.load (some 7) (.t 6)),
  oP 137 (.mv (.t 0)),
  oP 138 (.bin false .eql (.t 137) (.v (.string ⟨#[]⟩))),
  ⟨none, .store 7 (.t 4) (.t 136), none⟩,
  oP 5 (.mv (.t 138))])
 (.canon [] [4, 5] .ret)))))))
def zac_q : IQ :=
 (.seq
 (.reg 5 none [
  oP 4 (.alloc 123 [.bool false, .string ⟨#[]⟩, .string ⟨#[]⟩, .int .i64 0, .bool false, .bool false, .string ⟨#[]⟩]),
  oP 5 (.mv (.v (.bool false)))])
 (.seq
 (.reg 0 none [
  oP 13 (.build [.bool false, .string ⟨#[]⟩, .string ⟨#[]⟩, .int .i64 0, .bool false, .bool false, .string ⟨#[]⟩] [(4, 1, (.v (.bool true)))]),
  oP 6 (.alloc 123 [.bool false, .string ⟨#[]⟩, .string ⟨#[]⟩, .int .i64 0, .bool false, .bool false, .string ⟨#[]⟩]),
  ⟨none, .store 7 (.t 6) (.t 13), none⟩])
 (.seq
 (.reg 7 none [
  oP 7 (.mv (.v (.string ⟨#[]⟩)))])
 (.seq
 (.seq
 (.reg 14 none [
  oP 14 (.mv (.t 1))])
 (.block 0
  (.seq
  (.block 4
   (.seq
   (.block 3
    (.seq
    (.block 2
     (.seq
     (.block 1
      (.seq
      (.seq
      (.seq
      (.reg 15 none [
       oP 16 (.bin false .eql (.t 14) (.v (.int .i64 0))),
       oP 15 (.mv (.t 16))])
      (.cond (.t 15)
       (.exit 1)
       .skip))
      (.seq
      (.seq
      (.reg 17 none [
       oP 18 (.bin false .eql (.t 14) (.v (.int .i64 1))),
       oP 17 (.mv (.t 18))])
      (.cond (.t 17)
       (.exit 2)
       .skip))
      (.seq
      (.seq
      (.reg 19 none [
       oP 20 (.bin false .eql (.t 14) (.v (.int .i64 2))),
       oP 19 (.mv (.t 20))])
      (.cond (.t 19)
       (.exit 3)
       .skip))
      (.seq
      (.reg 21 none [
       oP 22 (.bin false .eql (.t 14) (.v (.int .i64 3))),
       oP 21 (.mv (.t 22))])
      (.cond (.t 21)
       (.exit 4)
       .skip)))))
      (.exit 0)))
     (.reg 0 none [
      oP 24 (.mv (.t 0)),
      oP 25 (.call 100 [(.t 24), (.v (.string ⟨#[45]⟩))]),
      oP 23 (.mv (.t 25)),
      oP 26 (.extract (.t 23) 0),
      oP 27 (.extract (.t 23) 1),
      oP 0 (.mv (.t 26)),
      oP 28 (.faddr 0 (.t 6)),
      ⟨none, .store 1 (.t 28) (.t 27), none⟩])))
    (.canon [] [0, 4, 6, 7] (.sub 0 zac_b0))))
   (.canon [] [0, 4, 6, 7] (.sub 1 zac_b1))))
  (.canon [] [0, 4, 6, 7] (.sub 2 zac_b2)))))
 (.canon [] [0, 4, 6, 7] (.sub 4 zac_b4))))))
theorem zac_chk : chk Tryd.prog 88 [] = some (zac_q.erase, [.cell 4 (some 7), .tmp 5], 139) := by kernel_rfl
def zac_p0 (s : ByteArray) : Option (Bool ⊕ (ByteArray × ByteArray)) :=
 (zad_s s).bind fun r2 =>
 gd ((decide ((1 : Int) < r2)) = true → (decide (r2 = (0 : Int))) = false → 0 ≤ (0 : Int) ∧ (0 : Int) < s.size) <|
 bif ((decide (r2 = (0 : Int))) || ((decide ((1 : Int) < r2)) && (decide ((bAt s (0 : Int)) = (48 : Int))))) then (
  some (.inl false))
 else (
  gd (0 ≤ (0 : Int) ∧ (0 : Int) ≤ r2 ∧ r2 ≤ s.size) <|
  gd (0 ≤ r2 ∧ r2 ≤ (s.size : Int) ∧ (s.size : Int) ≤ s.size) <|
  some (.inr ((s.extract (Int.toNat r2) s.size), (s.extract 0 (Int.toNat r2)))))
def zac_p1 (s : ByteArray) (behind : ByteArray) (n_plain : Bool) : Option (Bool ⊕ (ByteArray × ByteArray × Bool)) :=
 (zbq_s s (⟨#[46]⟩ : ByteArray)).bind fun r4 =>
 bif r4.2 then (
  (zad_s r4.1).bind fun r5 =>
  bif decide (r5 = (0 : Int)) then (
   some (.inl false))
  else (
   gd (0 ≤ (0 : Int) ∧ (0 : Int) ≤ r5 ∧ r5 ≤ r4.1.size) <|
   gd (0 ≤ r5 ∧ r5 ≤ (r4.1.size : Int) ∧ (r4.1.size : Int) ≤ r4.1.size) <|
   some (.inr ((r4.1.extract (Int.toNat r5) r4.1.size), (r4.1.extract 0 (Int.toNat r5)), false))))
 else (
  some (.inr (s, behind, n_plain)))
def zac_p3 (s : ByteArray) : Option (Bool ⊕ (ByteArray × Bool × ByteArray)) :=
 bif decide (s = (⟨#[]⟩ : ByteArray)) then (
  some (.inl false))
 else (
  (zad_s s).bind fun r7 =>
  bif (!decide (r7 = (s.size : Int))) then (
   some (.inl false))
  else (
   (zbs_s s (⟨#[48]⟩ : ByteArray)).bind fun r8 =>
   some (.inr ((⟨#[]⟩ : ByteArray), false, r8))))
def zac_p2 (s : ByteArray) (n_plain : Bool) (n_down : Bool) (n_exp : ByteArray) : Option ((Bool × Bool) ⊕ (ByteArray × Bool × Bool × ByteArray)) :=
 gd ((!decide (s = (⟨#[]⟩ : ByteArray))) = true → 0 ≤ (0 : Int) ∧ (0 : Int) < s.size) <|
 bif ((!decide (s = (⟨#[]⟩ : ByteArray))) && (decide ((bitOr .u8 (bAt s (0 : Int)) (32 : Int)) = (101 : Int)))) then (
  gd (0 ≤ (1 : Int) ∧ (1 : Int) ≤ (s.size : Int) ∧ (s.size : Int) ≤ s.size) <|
  gd ((!decide ((s.extract 1 s.size) = (⟨#[]⟩ : ByteArray))) = true → 0 ≤ (0 : Int) ∧ (0 : Int) < (s.extract 1 s.size).size) <|
  gd ((decide ((bAt (s.extract 1 s.size) (0 : Int)) = (43 : Int))) = false → (!decide ((s.extract 1 s.size) = (⟨#[]⟩ : ByteArray))) = true → 0 ≤ (0 : Int) ∧ (0 : Int) < (s.extract 1 s.size).size) <|
  bif ((!decide ((s.extract 1 s.size) = (⟨#[]⟩ : ByteArray))) && ((decide ((bAt (s.extract 1 s.size) (0 : Int)) = (43 : Int))) || (decide ((bAt (s.extract 1 s.size) (0 : Int)) = (45 : Int))))) then (
   gd (0 ≤ (0 : Int) ∧ (0 : Int) < (s.extract 1 s.size).size) <|
   gd (0 ≤ (1 : Int) ∧ (1 : Int) ≤ ((s.extract 1 s.size).size : Int) ∧ ((s.extract 1 s.size).size : Int) ≤ (s.extract 1 s.size).size) <|
   (zac_p3 ((s.extract 1 s.size).extract 1 (s.extract 1 s.size).size)).bind fun o9 => (Sum.elim (fun (o9_0 : Bool) =>
    some (.inl (o9_0, decide ((bAt (s.extract 1 s.size) (0 : Int)) = (45 : Int))))) (fun (o9_1 : ByteArray × Bool × ByteArray) =>
    some (.inr (o9_1.1, o9_1.2.1, decide ((bAt (s.extract 1 s.size) (0 : Int)) = (45 : Int)), o9_1.2.2)))) o9)
  else (
   (zac_p3 (s.extract 1 s.size)).bind fun o10 => (Sum.elim (fun (o10_0 : Bool) =>
    some (.inl (o10_0, n_down))) (fun (o10_1 : ByteArray × Bool × ByteArray) =>
    some (.inr (o10_1.1, o10_1.2.1, n_down, o10_1.2.2)))) o10))
 else (
  some (.inr (s, n_plain, n_down, n_exp)))
def zac_p4 (s : ByteArray) (behind : ByteArray) (n_whole : ByteArray) (n_down : Bool) (n_exp : ByteArray) : Option (Bool × ByteArray × Int × Bool) :=
 gd (n_whole.size + behind.size ≤ 9223372036854775807) <|
 (zbs_s (n_whole ++ behind) (⟨#[48]⟩ : ByteArray)).bind fun r12 =>
 gd (InI64 (((n_whole ++ behind).size : Int) - (r12.size : Int))) <|
 gd (InI64 ((n_whole.size : Int) - (((n_whole ++ behind).size : Int) - (r12.size : Int)))) <|
 (zbt_s r12 (⟨#[48]⟩ : ByteArray)).bind fun r13 =>
 bif decide (n_exp = (⟨#[]⟩ : ByteArray)) then (
  some (decide (s = (⟨#[]⟩ : ByteArray)), r13, ((n_whole.size : Int) - (((n_whole ++ behind).size : Int) - (r12.size : Int))), false))
 else (
  some (decide (s = (⟨#[]⟩ : ByteArray)), r13, ((n_whole.size : Int) - (((n_whole ++ behind).size : Int) - (r12.size : Int))), n_down))
def zac_s (s : ByteArray) (part : Int) : Option (decimal_number × Bool) :=
 bif decide (part = (0 : Int)) then (
  (zbq_s s (⟨#[45]⟩ : ByteArray)).bind fun r1 =>
  (zac_p0 r1.1).bind fun o3 => (Sum.elim (fun (o3_0 : Bool) =>
   some ((⟨r1.2, (⟨#[]⟩ : ByteArray), (⟨#[]⟩ : ByteArray), (0 : Int), true, false, (⟨#[]⟩ : ByteArray)⟩ : decimal_number), o3_0)) (fun (o3_1 : ByteArray × ByteArray) =>
   (zac_p1 o3_1.1 (⟨#[]⟩ : ByteArray) true).bind fun o6 => (Sum.elim (fun (o6_0 : Bool) =>
    some ((⟨r1.2, o3_1.2, (⟨#[]⟩ : ByteArray), (0 : Int), true, false, (⟨#[]⟩ : ByteArray)⟩ : decimal_number), o6_0)) (fun (o6_1 : ByteArray × ByteArray × Bool) =>
    (zac_p2 o6_1.1 o6_1.2.2 false (⟨#[]⟩ : ByteArray)).bind fun o11 => (Sum.elim (fun (o11_0 : Bool × Bool) =>
     some ((⟨r1.2, o3_1.2, (⟨#[]⟩ : ByteArray), (0 : Int), o6_1.2.2, o11_0.2, (⟨#[]⟩ : ByteArray)⟩ : decimal_number), o11_0.1)) (fun (o11_1 : ByteArray × Bool × Bool × ByteArray) =>
     (zac_p4 o11_1.1 o6_1.2.1 o3_1.2 o11_1.2.2.1 o11_1.2.2.2).bind fun o14 =>
     some ((⟨r1.2, o3_1.2, o14.2.1, o14.2.2.1, o11_1.2.1, o14.2.2.2, o11_1.2.2.2⟩ : decimal_number), o14.1))) o11)) o6)) o3)
 else (
  bif decide (part = (1 : Int)) then (
   (zac_p0 s).bind fun o15 => (Sum.elim (fun (o15_0 : Bool) =>
    some ((⟨false, (⟨#[]⟩ : ByteArray), (⟨#[]⟩ : ByteArray), (0 : Int), true, false, (⟨#[]⟩ : ByteArray)⟩ : decimal_number), o15_0)) (fun (o15_1 : ByteArray × ByteArray) =>
    (zac_p1 o15_1.1 (⟨#[]⟩ : ByteArray) true).bind fun o16 => (Sum.elim (fun (o16_0 : Bool) =>
     some ((⟨false, o15_1.2, (⟨#[]⟩ : ByteArray), (0 : Int), true, false, (⟨#[]⟩ : ByteArray)⟩ : decimal_number), o16_0)) (fun (o16_1 : ByteArray × ByteArray × Bool) =>
     (zac_p2 o16_1.1 o16_1.2.2 false (⟨#[]⟩ : ByteArray)).bind fun o17 => (Sum.elim (fun (o17_0 : Bool × Bool) =>
      some ((⟨false, o15_1.2, (⟨#[]⟩ : ByteArray), (0 : Int), o16_1.2.2, o17_0.2, (⟨#[]⟩ : ByteArray)⟩ : decimal_number), o17_0.1)) (fun (o17_1 : ByteArray × Bool × Bool × ByteArray) =>
      (zac_p4 o17_1.1 o16_1.2.1 o15_1.2 o17_1.2.2.1 o17_1.2.2.2).bind fun o18 =>
      some ((⟨false, o15_1.2, o18.2.1, o18.2.2.1, o17_1.2.1, o18.2.2.2, o17_1.2.2.2⟩ : decimal_number), o18.1))) o17)) o16)) o15)
  else (
   bif decide (part = (2 : Int)) then (
    (zac_p1 s (⟨#[]⟩ : ByteArray) true).bind fun o19 => (Sum.elim (fun (o19_0 : Bool) =>
     some ((⟨false, (⟨#[]⟩ : ByteArray), (⟨#[]⟩ : ByteArray), (0 : Int), true, false, (⟨#[]⟩ : ByteArray)⟩ : decimal_number), o19_0)) (fun (o19_1 : ByteArray × ByteArray × Bool) =>
     (zac_p2 o19_1.1 o19_1.2.2 false (⟨#[]⟩ : ByteArray)).bind fun o20 => (Sum.elim (fun (o20_0 : Bool × Bool) =>
      some ((⟨false, (⟨#[]⟩ : ByteArray), (⟨#[]⟩ : ByteArray), (0 : Int), o19_1.2.2, o20_0.2, (⟨#[]⟩ : ByteArray)⟩ : decimal_number), o20_0.1)) (fun (o20_1 : ByteArray × Bool × Bool × ByteArray) =>
      (zac_p4 o20_1.1 o19_1.2.1 (⟨#[]⟩ : ByteArray) o20_1.2.2.1 o20_1.2.2.2).bind fun o21 =>
      some ((⟨false, (⟨#[]⟩ : ByteArray), o21.2.1, o21.2.2.1, o20_1.2.1, o21.2.2.2, o20_1.2.2.2⟩ : decimal_number), o21.1))) o20)) o19)
   else (
    bif decide (part = (3 : Int)) then (
     (zac_p2 s true false (⟨#[]⟩ : ByteArray)).bind fun o22 => (Sum.elim (fun (o22_0 : Bool × Bool) =>
      some ((⟨false, (⟨#[]⟩ : ByteArray), (⟨#[]⟩ : ByteArray), (0 : Int), true, o22_0.2, (⟨#[]⟩ : ByteArray)⟩ : decimal_number), o22_0.1)) (fun (o22_1 : ByteArray × Bool × Bool × ByteArray) =>
      (zac_p4 o22_1.1 (⟨#[]⟩ : ByteArray) (⟨#[]⟩ : ByteArray) o22_1.2.2.1 o22_1.2.2.2).bind fun o23 =>
      some ((⟨false, (⟨#[]⟩ : ByteArray), o23.2.1, o23.2.2.1, o22_1.2.1, o23.2.2.2, o22_1.2.2.2⟩ : decimal_number), o23.1))) o22)
    else (
     (zac_p4 s (⟨#[]⟩ : ByteArray) (⟨#[]⟩ : ByteArray) false (⟨#[]⟩ : ByteArray)).bind fun o24 =>
     some ((⟨false, (⟨#[]⟩ : ByteArray), o24.2.1, o24.2.2.1, true, o24.2.2.2, (⟨#[]⟩ : ByteArray)⟩ : decimal_number), o24.1)))))
def zac_G : Nat → Option CQ := tblQ [(100, zbq_w), (101, zad_w), (102, zbs_w), (103, zbt_w)]
theorem zac_Gok : ∀ f C, zac_G f = some C → ValidQ Tryd.prog f C := tblQ_valid ⟨zbq_ok, zad_ok, zbs_ok, zbt_ok, trivial⟩
def zac_d0 := (dQS (dCons (dSl 0 (dVC (dCO dS))) (dCons (dSl 4 (dVC (dCO (dH 0 0)))) (dCons (dSl 6 (dVC (dCO (dH 1 0)))) (dCons (dSl 7 (dVC (dCO dS))) dNil)))) (dCons (dCells 123 (dCons dB (dCons dS (dCons dS (dCons (dI .i64) (dCons dB (dCons dB (dCons dS dNil)))))))) (dCons (dCells 123 (dCons dB (dCons dS (dCons dS (dCons (dI .i64) (dCons dB (dCons dB (dCons dS dNil)))))))) dNil)))
def zac_l0 : SubQ := fun S R kn kx kr => (Dec.d zac_d0 S).bind fun x => (zac_p0 x.1.1).bind fun r => (Sum.elim (fun (r_0 : Bool) => kr ⟨[(4, [], .c (.o (.hd 0 0))), (5, [], .c (.o (.val (.bool r_0))))], [], [.cells 123 [.val (.bool x.2.2.1.1), .val (.string x.2.2.1.2.1), .val (.string x.2.2.1.2.2.1), .val (.int .i64 x.2.2.1.2.2.2.1), .val (.bool x.2.2.1.2.2.2.2.1), .val (.bool x.2.2.1.2.2.2.2.2.1), .val (.string x.2.2.1.2.2.2.2.2.2.1)]]⟩) (fun (r_1 : ByteArray × ByteArray) => kn ⟨[(0, [], .c (.o (.val (.string r_1.1)))), (4, [], .c (.o (.hd 0 0))), (6, [], .c (.o (.hd 1 0))), (7, [], .c (.o (.val (.string x.1.2.2.2.1))))], [], [.cells 123 [.val (.bool x.2.1.1), .val (.string x.2.1.2.1), .val (.string x.2.1.2.2.1), .val (.int .i64 x.2.1.2.2.2.1), .val (.bool x.2.1.2.2.2.2.1), .val (.bool x.2.1.2.2.2.2.2.1), .val (.string x.2.1.2.2.2.2.2.2.1)], .cells 123 [.val (.bool x.2.2.1.1), .val (.string r_1.2), .val (.string x.2.2.1.2.2.1), .val (.int .i64 x.2.2.1.2.2.2.1), .val (.bool x.2.2.1.2.2.2.2.1), .val (.bool x.2.2.1.2.2.2.2.2.1), .val (.string x.2.2.1.2.2.2.2.2.2.1)]]⟩)) r
def zac_d1 := (dQS (dCons (dSl 0 (dVC (dCO dS))) (dCons (dSl 4 (dVC (dCO (dH 0 0)))) (dCons (dSl 6 (dVC (dCO (dH 1 0)))) (dCons (dSl 7 (dVC (dCO dS))) dNil)))) (dCons (dCells 123 (dCons dB (dCons dS (dCons dS (dCons (dI .i64) (dCons dB (dCons dB (dCons dS dNil)))))))) (dCons (dCells 123 (dCons dB (dCons dS (dCons dS (dCons (dI .i64) (dCons dB (dCons dB (dCons dS dNil)))))))) dNil)))
def zac_l1 : SubQ := fun S R kn kx kr => (Dec.d zac_d1 S).bind fun x => (zac_p1 x.1.1 x.1.2.2.2.1 x.2.2.1.2.2.2.2.1).bind fun r => (Sum.elim (fun (r_0 : Bool) => kr ⟨[(4, [], .c (.o (.hd 0 0))), (5, [], .c (.o (.val (.bool r_0))))], [], [.cells 123 [.val (.bool x.2.2.1.1), .val (.string x.2.2.1.2.1), .val (.string x.2.2.1.2.2.1), .val (.int .i64 x.2.2.1.2.2.2.1), .val (.bool x.2.2.1.2.2.2.2.1), .val (.bool x.2.2.1.2.2.2.2.2.1), .val (.string x.2.2.1.2.2.2.2.2.2.1)]]⟩) (fun (r_1 : ByteArray × ByteArray × Bool) => kn ⟨[(0, [], .c (.o (.val (.string r_1.1)))), (4, [], .c (.o (.hd 0 0))), (6, [], .c (.o (.hd 1 0))), (7, [], .c (.o (.val (.string r_1.2.1))))], [], [.cells 123 [.val (.bool x.2.1.1), .val (.string x.2.1.2.1), .val (.string x.2.1.2.2.1), .val (.int .i64 x.2.1.2.2.2.1), .val (.bool x.2.1.2.2.2.2.1), .val (.bool x.2.1.2.2.2.2.2.1), .val (.string x.2.1.2.2.2.2.2.2.1)], .cells 123 [.val (.bool x.2.2.1.1), .val (.string x.2.2.1.2.1), .val (.string x.2.2.1.2.2.1), .val (.int .i64 x.2.2.1.2.2.2.1), .val (.bool r_1.2.2), .val (.bool x.2.2.1.2.2.2.2.2.1), .val (.string x.2.2.1.2.2.2.2.2.2.1)]]⟩)) r
def zac_d3 := (dQS (dCons (dSl 0 (dVC (dCO dS))) (dCons (dSl 4 (dVC (dCO (dH 0 0)))) (dCons (dSl 6 (dVC (dCO (dH 1 0)))) (dCons (dSl 7 (dVC (dCO dS))) dNil)))) (dCons (dCells 123 (dCons dB (dCons dS (dCons dS (dCons (dI .i64) (dCons dB (dCons dB (dCons dS dNil)))))))) (dCons (dCells 123 (dCons dB (dCons dS (dCons dS (dCons (dI .i64) (dCons dB (dCons dB (dCons dS dNil)))))))) dNil)))
def zac_l3 : SubQ := fun S R kn kx kr => (Dec.d zac_d3 S).bind fun x => (zac_p3 x.1.1).bind fun r => (Sum.elim (fun (r_0 : Bool) => kr ⟨[(4, [], .c (.o (.hd 0 0))), (5, [], .c (.o (.val (.bool r_0))))], [], [.cells 123 [.val (.bool x.2.2.1.1), .val (.string x.2.2.1.2.1), .val (.string x.2.2.1.2.2.1), .val (.int .i64 x.2.2.1.2.2.2.1), .val (.bool x.2.2.1.2.2.2.2.1), .val (.bool x.2.2.1.2.2.2.2.2.1), .val (.string x.2.2.1.2.2.2.2.2.2.1)]]⟩) (fun (r_1 : ByteArray × Bool × ByteArray) => kn ⟨[(0, [], .c (.o (.val (.string r_1.1)))), (4, [], .c (.o (.hd 0 0))), (6, [], .c (.o (.hd 1 0))), (7, [], .c (.o (.val (.string x.1.2.2.2.1))))], [], [.cells 123 [.val (.bool x.2.1.1), .val (.string x.2.1.2.1), .val (.string x.2.1.2.2.1), .val (.int .i64 x.2.1.2.2.2.1), .val (.bool x.2.1.2.2.2.2.1), .val (.bool x.2.1.2.2.2.2.2.1), .val (.string x.2.1.2.2.2.2.2.2.1)], .cells 123 [.val (.bool x.2.2.1.1), .val (.string x.2.2.1.2.1), .val (.string x.2.2.1.2.2.1), .val (.int .i64 x.2.2.1.2.2.2.1), .val (.bool r_1.2.1), .val (.bool x.2.2.1.2.2.2.2.2.1), .val (.string r_1.2.2)]]⟩)) r
def zac_d2 := (dQS (dCons (dSl 0 (dVC (dCO dS))) (dCons (dSl 4 (dVC (dCO (dH 0 0)))) (dCons (dSl 6 (dVC (dCO (dH 1 0)))) (dCons (dSl 7 (dVC (dCO dS))) dNil)))) (dCons (dCells 123 (dCons dB (dCons dS (dCons dS (dCons (dI .i64) (dCons dB (dCons dB (dCons dS dNil)))))))) (dCons (dCells 123 (dCons dB (dCons dS (dCons dS (dCons (dI .i64) (dCons dB (dCons dB (dCons dS dNil)))))))) dNil)))
def zac_l2 : SubQ := fun S R kn kx kr => (Dec.d zac_d2 S).bind fun x => (zac_p2 x.1.1 x.2.2.1.2.2.2.2.1 x.2.2.1.2.2.2.2.2.1 x.2.2.1.2.2.2.2.2.2.1).bind fun r => (Sum.elim (fun (r_0 : Bool × Bool) => kr ⟨[(4, [], .c (.o (.hd 0 0))), (5, [], .c (.o (.val (.bool r_0.1))))], [], [.cells 123 [.val (.bool x.2.2.1.1), .val (.string x.2.2.1.2.1), .val (.string x.2.2.1.2.2.1), .val (.int .i64 x.2.2.1.2.2.2.1), .val (.bool x.2.2.1.2.2.2.2.1), .val (.bool r_0.2), .val (.string x.2.2.1.2.2.2.2.2.2.1)]]⟩) (fun (r_1 : ByteArray × Bool × Bool × ByteArray) => kx 0 ⟨[(0, [], .c (.o (.val (.string r_1.1)))), (4, [], .c (.o (.hd 0 0))), (6, [], .c (.o (.hd 1 0))), (7, [], .c (.o (.val (.string x.1.2.2.2.1))))], [], [.cells 123 [.val (.bool x.2.1.1), .val (.string x.2.1.2.1), .val (.string x.2.1.2.2.1), .val (.int .i64 x.2.1.2.2.2.1), .val (.bool x.2.1.2.2.2.2.1), .val (.bool x.2.1.2.2.2.2.2.1), .val (.string x.2.1.2.2.2.2.2.2.1)], .cells 123 [.val (.bool x.2.2.1.1), .val (.string x.2.2.1.2.1), .val (.string x.2.2.1.2.2.1), .val (.int .i64 x.2.2.1.2.2.2.1), .val (.bool r_1.2.1), .val (.bool r_1.2.2.1), .val (.string r_1.2.2.2)]]⟩)) r
def zac_d4 := (dQS (dCons (dSl 0 (dVC (dCO dS))) (dCons (dSl 4 (dVC (dCO (dH 0 0)))) (dCons (dSl 6 (dVC (dCO (dH 1 0)))) (dCons (dSl 7 (dVC (dCO dS))) dNil)))) (dCons (dCells 123 (dCons dB (dCons dS (dCons dS (dCons (dI .i64) (dCons dB (dCons dB (dCons dS dNil)))))))) (dCons (dCells 123 (dCons dB (dCons dS (dCons dS (dCons (dI .i64) (dCons dB (dCons dB (dCons dS dNil)))))))) dNil)))
def zac_l4 : SubQ := fun S R kn kx kr => (Dec.d zac_d4 S).bind fun x => (zac_p4 x.1.1 x.1.2.2.2.1 x.2.2.1.2.1 x.2.2.1.2.2.2.2.2.1 x.2.2.1.2.2.2.2.2.2.1).bind fun r => kr ⟨[(4, [], .c (.o (.hd 0 0))), (5, [], .c (.o (.val (.bool r.1))))], [], [.cells 123 [.val (.bool x.2.2.1.1), .val (.string x.2.2.1.2.1), .val (.string r.2.1), .val (.int .i64 r.2.2.1), .val (.bool x.2.2.1.2.2.2.2.1), .val (.bool r.2.2.2), .val (.string x.2.2.1.2.2.2.2.2.2.1)]]⟩
def zac_L : Nat → SubQ := tblL [(0, zac_l0), (1, zac_l1), (3, zac_l3), (2, zac_l2), (4, zac_l4)]
theorem zac_p0_eq (s : ByteArray) (behind : ByteArray) (res_minus : Bool) (res_whole : ByteArray) (res_digits : ByteArray) (res_point : Int) (res_plain : Bool) (res_down : Bool) (res_exp : ByteArray) (n_minus : Bool) (n_whole : ByteArray) (n_digits : ByteArray) (n_point : Int) (n_plain : Bool) (n_down : Bool) (n_exp : ByteArray) (R : Type) (kn : QS → Option R) (kx : Nat → QS → Option R) (kr : QS → Option R) :
  interpQ zac_L zac_G 0 15 139 zac_b0 ⟨[(0, [], .c (.o (.val (.string s)))), (4, [], .c (.o (.hd 0 0))), (6, [], .c (.o (.hd 1 0))), (7, [], .c (.o (.val (.string behind))))], [], [.cells 123 [.val (.bool res_minus), .val (.string res_whole), .val (.string res_digits), .val (.int .i64 res_point), .val (.bool res_plain), .val (.bool res_down), .val (.string res_exp)], .cells 123 [.val (.bool n_minus), .val (.string n_whole), .val (.string n_digits), .val (.int .i64 n_point), .val (.bool n_plain), .val (.bool n_down), .val (.string n_exp)]]⟩ kn kx kr = (zac_p0 s).bind fun r => (Sum.elim (fun (r_0 : Bool) => kr ⟨[(4, [], .c (.o (.hd 0 0))), (5, [], .c (.o (.val (.bool r_0))))], [], [.cells 123 [.val (.bool n_minus), .val (.string n_whole), .val (.string n_digits), .val (.int .i64 n_point), .val (.bool n_plain), .val (.bool n_down), .val (.string n_exp)]]⟩) (fun (r_1 : ByteArray × ByteArray) => kn ⟨[(0, [], .c (.o (.val (.string r_1.1)))), (4, [], .c (.o (.hd 0 0))), (6, [], .c (.o (.hd 1 0))), (7, [], .c (.o (.val (.string behind))))], [], [.cells 123 [.val (.bool res_minus), .val (.string res_whole), .val (.string res_digits), .val (.int .i64 res_point), .val (.bool res_plain), .val (.bool res_down), .val (.string res_exp)], .cells 123 [.val (.bool n_minus), .val (.string r_1.2), .val (.string n_digits), .val (.int .i64 n_point), .val (.bool n_plain), .val (.bool n_down), .val (.string n_exp)]]⟩)) r := by
 simp only [zac_p0, -eq_self, bind_cond, bind_gd, Option.bind_assoc, obS, Sum.elim_inl, Sum.elim_inr, bind_elim]
 kernel_rfl
theorem zac_sub0 : SubOK zac_L zac_G 0 15 139 0 zac_b0 := sub_ok' zac_d0 (fun x R kn kx kr => (zac_p0 x.1.1).bind fun r => (Sum.elim (fun (r_0 : Bool) => kr ⟨[(4, [], .c (.o (.hd 0 0))), (5, [], .c (.o (.val (.bool r_0))))], [], [.cells 123 [.val (.bool x.2.2.1.1), .val (.string x.2.2.1.2.1), .val (.string x.2.2.1.2.2.1), .val (.int .i64 x.2.2.1.2.2.2.1), .val (.bool x.2.2.1.2.2.2.2.1), .val (.bool x.2.2.1.2.2.2.2.2.1), .val (.string x.2.2.1.2.2.2.2.2.2.1)]]⟩) (fun (r_1 : ByteArray × ByteArray) => kn ⟨[(0, [], .c (.o (.val (.string r_1.1)))), (4, [], .c (.o (.hd 0 0))), (6, [], .c (.o (.hd 1 0))), (7, [], .c (.o (.val (.string x.1.2.2.2.1))))], [], [.cells 123 [.val (.bool x.2.1.1), .val (.string x.2.1.2.1), .val (.string x.2.1.2.2.1), .val (.int .i64 x.2.1.2.2.2.1), .val (.bool x.2.1.2.2.2.2.1), .val (.bool x.2.1.2.2.2.2.2.1), .val (.string x.2.1.2.2.2.2.2.2.1)], .cells 123 [.val (.bool x.2.2.1.1), .val (.string r_1.2), .val (.string x.2.2.1.2.2.1), .val (.int .i64 x.2.2.1.2.2.2.1), .val (.bool x.2.2.1.2.2.2.2.1), .val (.bool x.2.2.1.2.2.2.2.2.1), .val (.string x.2.2.1.2.2.2.2.2.2.1)]]⟩)) r) (by kernel_rfl) fun x R kn kx kr => zac_p0_eq x.1.1 x.1.2.2.2.1 x.2.1.1 x.2.1.2.1 x.2.1.2.2.1 x.2.1.2.2.2.1 x.2.1.2.2.2.2.1 x.2.1.2.2.2.2.2.1 x.2.1.2.2.2.2.2.2.1 x.2.2.1.1 x.2.2.1.2.1 x.2.2.1.2.2.1 x.2.2.1.2.2.2.1 x.2.2.1.2.2.2.2.1 x.2.2.1.2.2.2.2.2.1 x.2.2.1.2.2.2.2.2.2.1 R kn kx kr
theorem zac_p1_eq (s : ByteArray) (behind : ByteArray) (res_minus : Bool) (res_whole : ByteArray) (res_digits : ByteArray) (res_point : Int) (res_plain : Bool) (res_down : Bool) (res_exp : ByteArray) (n_minus : Bool) (n_whole : ByteArray) (n_digits : ByteArray) (n_point : Int) (n_plain : Bool) (n_down : Bool) (n_exp : ByteArray) (R : Type) (kn : QS → Option R) (kx : Nat → QS → Option R) (kr : QS → Option R) :
  interpQ zac_L zac_G 0 15 139 zac_b1 ⟨[(0, [], .c (.o (.val (.string s)))), (4, [], .c (.o (.hd 0 0))), (6, [], .c (.o (.hd 1 0))), (7, [], .c (.o (.val (.string behind))))], [], [.cells 123 [.val (.bool res_minus), .val (.string res_whole), .val (.string res_digits), .val (.int .i64 res_point), .val (.bool res_plain), .val (.bool res_down), .val (.string res_exp)], .cells 123 [.val (.bool n_minus), .val (.string n_whole), .val (.string n_digits), .val (.int .i64 n_point), .val (.bool n_plain), .val (.bool n_down), .val (.string n_exp)]]⟩ kn kx kr = (zac_p1 s behind n_plain).bind fun r => (Sum.elim (fun (r_0 : Bool) => kr ⟨[(4, [], .c (.o (.hd 0 0))), (5, [], .c (.o (.val (.bool r_0))))], [], [.cells 123 [.val (.bool n_minus), .val (.string n_whole), .val (.string n_digits), .val (.int .i64 n_point), .val (.bool n_plain), .val (.bool n_down), .val (.string n_exp)]]⟩) (fun (r_1 : ByteArray × ByteArray × Bool) => kn ⟨[(0, [], .c (.o (.val (.string r_1.1)))), (4, [], .c (.o (.hd 0 0))), (6, [], .c (.o (.hd 1 0))), (7, [], .c (.o (.val (.string r_1.2.1))))], [], [.cells 123 [.val (.bool res_minus), .val (.string res_whole), .val (.string res_digits), .val (.int .i64 res_point), .val (.bool res_plain), .val (.bool res_down), .val (.string res_exp)], .cells 123 [.val (.bool n_minus), .val (.string n_whole), .val (.string n_digits), .val (.int .i64 n_point), .val (.bool r_1.2.2), .val (.bool n_down), .val (.string n_exp)]]⟩)) r := by
 simp only [zac_p1, -eq_self, bind_cond, bind_gd, Option.bind_assoc, obS, Sum.elim_inl, Sum.elim_inr, bind_elim]
 kernel_rfl
theorem zac_sub1 : SubOK zac_L zac_G 0 15 139 1 zac_b1 := sub_ok' zac_d1 (fun x R kn kx kr => (zac_p1 x.1.1 x.1.2.2.2.1 x.2.2.1.2.2.2.2.1).bind fun r => (Sum.elim (fun (r_0 : Bool) => kr ⟨[(4, [], .c (.o (.hd 0 0))), (5, [], .c (.o (.val (.bool r_0))))], [], [.cells 123 [.val (.bool x.2.2.1.1), .val (.string x.2.2.1.2.1), .val (.string x.2.2.1.2.2.1), .val (.int .i64 x.2.2.1.2.2.2.1), .val (.bool x.2.2.1.2.2.2.2.1), .val (.bool x.2.2.1.2.2.2.2.2.1), .val (.string x.2.2.1.2.2.2.2.2.2.1)]]⟩) (fun (r_1 : ByteArray × ByteArray × Bool) => kn ⟨[(0, [], .c (.o (.val (.string r_1.1)))), (4, [], .c (.o (.hd 0 0))), (6, [], .c (.o (.hd 1 0))), (7, [], .c (.o (.val (.string r_1.2.1))))], [], [.cells 123 [.val (.bool x.2.1.1), .val (.string x.2.1.2.1), .val (.string x.2.1.2.2.1), .val (.int .i64 x.2.1.2.2.2.1), .val (.bool x.2.1.2.2.2.2.1), .val (.bool x.2.1.2.2.2.2.2.1), .val (.string x.2.1.2.2.2.2.2.2.1)], .cells 123 [.val (.bool x.2.2.1.1), .val (.string x.2.2.1.2.1), .val (.string x.2.2.1.2.2.1), .val (.int .i64 x.2.2.1.2.2.2.1), .val (.bool r_1.2.2), .val (.bool x.2.2.1.2.2.2.2.2.1), .val (.string x.2.2.1.2.2.2.2.2.2.1)]]⟩)) r) (by kernel_rfl) fun x R kn kx kr => zac_p1_eq x.1.1 x.1.2.2.2.1 x.2.1.1 x.2.1.2.1 x.2.1.2.2.1 x.2.1.2.2.2.1 x.2.1.2.2.2.2.1 x.2.1.2.2.2.2.2.1 x.2.1.2.2.2.2.2.2.1 x.2.2.1.1 x.2.2.1.2.1 x.2.2.1.2.2.1 x.2.2.1.2.2.2.1 x.2.2.1.2.2.2.2.1 x.2.2.1.2.2.2.2.2.1 x.2.2.1.2.2.2.2.2.2.1 R kn kx kr
theorem zac_p3_eq (s : ByteArray) (behind : ByteArray) (res_minus : Bool) (res_whole : ByteArray) (res_digits : ByteArray) (res_point : Int) (res_plain : Bool) (res_down : Bool) (res_exp : ByteArray) (n_minus : Bool) (n_whole : ByteArray) (n_digits : ByteArray) (n_point : Int) (n_plain : Bool) (n_down : Bool) (n_exp : ByteArray) (R : Type) (kn : QS → Option R) (kx : Nat → QS → Option R) (kr : QS → Option R) :
  interpQ zac_L zac_G 0 15 139 zac_b3 ⟨[(0, [], .c (.o (.val (.string s)))), (4, [], .c (.o (.hd 0 0))), (6, [], .c (.o (.hd 1 0))), (7, [], .c (.o (.val (.string behind))))], [], [.cells 123 [.val (.bool res_minus), .val (.string res_whole), .val (.string res_digits), .val (.int .i64 res_point), .val (.bool res_plain), .val (.bool res_down), .val (.string res_exp)], .cells 123 [.val (.bool n_minus), .val (.string n_whole), .val (.string n_digits), .val (.int .i64 n_point), .val (.bool n_plain), .val (.bool n_down), .val (.string n_exp)]]⟩ kn kx kr = (zac_p3 s).bind fun r => (Sum.elim (fun (r_0 : Bool) => kr ⟨[(4, [], .c (.o (.hd 0 0))), (5, [], .c (.o (.val (.bool r_0))))], [], [.cells 123 [.val (.bool n_minus), .val (.string n_whole), .val (.string n_digits), .val (.int .i64 n_point), .val (.bool n_plain), .val (.bool n_down), .val (.string n_exp)]]⟩) (fun (r_1 : ByteArray × Bool × ByteArray) => kn ⟨[(0, [], .c (.o (.val (.string r_1.1)))), (4, [], .c (.o (.hd 0 0))), (6, [], .c (.o (.hd 1 0))), (7, [], .c (.o (.val (.string behind))))], [], [.cells 123 [.val (.bool res_minus), .val (.string res_whole), .val (.string res_digits), .val (.int .i64 res_point), .val (.bool res_plain), .val (.bool res_down), .val (.string res_exp)], .cells 123 [.val (.bool n_minus), .val (.string n_whole), .val (.string n_digits), .val (.int .i64 n_point), .val (.bool r_1.2.1), .val (.bool n_down), .val (.string r_1.2.2)]]⟩)) r := by
 simp only [zac_p3, -eq_self, bind_cond, bind_gd, Option.bind_assoc, obS, Sum.elim_inl, Sum.elim_inr, bind_elim]
 kernel_rfl
theorem zac_sub3 : SubOK zac_L zac_G 0 15 139 3 zac_b3 := sub_ok' zac_d3 (fun x R kn kx kr => (zac_p3 x.1.1).bind fun r => (Sum.elim (fun (r_0 : Bool) => kr ⟨[(4, [], .c (.o (.hd 0 0))), (5, [], .c (.o (.val (.bool r_0))))], [], [.cells 123 [.val (.bool x.2.2.1.1), .val (.string x.2.2.1.2.1), .val (.string x.2.2.1.2.2.1), .val (.int .i64 x.2.2.1.2.2.2.1), .val (.bool x.2.2.1.2.2.2.2.1), .val (.bool x.2.2.1.2.2.2.2.2.1), .val (.string x.2.2.1.2.2.2.2.2.2.1)]]⟩) (fun (r_1 : ByteArray × Bool × ByteArray) => kn ⟨[(0, [], .c (.o (.val (.string r_1.1)))), (4, [], .c (.o (.hd 0 0))), (6, [], .c (.o (.hd 1 0))), (7, [], .c (.o (.val (.string x.1.2.2.2.1))))], [], [.cells 123 [.val (.bool x.2.1.1), .val (.string x.2.1.2.1), .val (.string x.2.1.2.2.1), .val (.int .i64 x.2.1.2.2.2.1), .val (.bool x.2.1.2.2.2.2.1), .val (.bool x.2.1.2.2.2.2.2.1), .val (.string x.2.1.2.2.2.2.2.2.1)], .cells 123 [.val (.bool x.2.2.1.1), .val (.string x.2.2.1.2.1), .val (.string x.2.2.1.2.2.1), .val (.int .i64 x.2.2.1.2.2.2.1), .val (.bool r_1.2.1), .val (.bool x.2.2.1.2.2.2.2.2.1), .val (.string r_1.2.2)]]⟩)) r) (by kernel_rfl) fun x R kn kx kr => zac_p3_eq x.1.1 x.1.2.2.2.1 x.2.1.1 x.2.1.2.1 x.2.1.2.2.1 x.2.1.2.2.2.1 x.2.1.2.2.2.2.1 x.2.1.2.2.2.2.2.1 x.2.1.2.2.2.2.2.2.1 x.2.2.1.1 x.2.2.1.2.1 x.2.2.1.2.2.1 x.2.2.1.2.2.2.1 x.2.2.1.2.2.2.2.1 x.2.2.1.2.2.2.2.2.1 x.2.2.1.2.2.2.2.2.2.1 R kn kx kr
theorem zac_p2_eq (s : ByteArray) (behind : ByteArray) (res_minus : Bool) (res_whole : ByteArray) (res_digits : ByteArray) (res_point : Int) (res_plain : Bool) (res_down : Bool) (res_exp : ByteArray) (n_minus : Bool) (n_whole : ByteArray) (n_digits : ByteArray) (n_point : Int) (n_plain : Bool) (n_down : Bool) (n_exp : ByteArray) (R : Type) (kn : QS → Option R) (kx : Nat → QS → Option R) (kr : QS → Option R) :
  interpQ zac_L zac_G 0 15 139 zac_b2 ⟨[(0, [], .c (.o (.val (.string s)))), (4, [], .c (.o (.hd 0 0))), (6, [], .c (.o (.hd 1 0))), (7, [], .c (.o (.val (.string behind))))], [], [.cells 123 [.val (.bool res_minus), .val (.string res_whole), .val (.string res_digits), .val (.int .i64 res_point), .val (.bool res_plain), .val (.bool res_down), .val (.string res_exp)], .cells 123 [.val (.bool n_minus), .val (.string n_whole), .val (.string n_digits), .val (.int .i64 n_point), .val (.bool n_plain), .val (.bool n_down), .val (.string n_exp)]]⟩ kn kx kr = (zac_p2 s n_plain n_down n_exp).bind fun r => (Sum.elim (fun (r_0 : Bool × Bool) => kr ⟨[(4, [], .c (.o (.hd 0 0))), (5, [], .c (.o (.val (.bool r_0.1))))], [], [.cells 123 [.val (.bool n_minus), .val (.string n_whole), .val (.string n_digits), .val (.int .i64 n_point), .val (.bool n_plain), .val (.bool r_0.2), .val (.string n_exp)]]⟩) (fun (r_1 : ByteArray × Bool × Bool × ByteArray) => kx 0 ⟨[(0, [], .c (.o (.val (.string r_1.1)))), (4, [], .c (.o (.hd 0 0))), (6, [], .c (.o (.hd 1 0))), (7, [], .c (.o (.val (.string behind))))], [], [.cells 123 [.val (.bool res_minus), .val (.string res_whole), .val (.string res_digits), .val (.int .i64 res_point), .val (.bool res_plain), .val (.bool res_down), .val (.string res_exp)], .cells 123 [.val (.bool n_minus), .val (.string n_whole), .val (.string n_digits), .val (.int .i64 n_point), .val (.bool r_1.2.1), .val (.bool r_1.2.2.1), .val (.string r_1.2.2.2)]]⟩)) r := by
 simp only [zac_p2, -eq_self, bind_cond, bind_gd, Option.bind_assoc, obS, Sum.elim_inl, Sum.elim_inr, bind_elim]
 kernel_rfl
theorem zac_sub2 : SubOK zac_L zac_G 0 15 139 2 zac_b2 := sub_ok' zac_d2 (fun x R kn kx kr => (zac_p2 x.1.1 x.2.2.1.2.2.2.2.1 x.2.2.1.2.2.2.2.2.1 x.2.2.1.2.2.2.2.2.2.1).bind fun r => (Sum.elim (fun (r_0 : Bool × Bool) => kr ⟨[(4, [], .c (.o (.hd 0 0))), (5, [], .c (.o (.val (.bool r_0.1))))], [], [.cells 123 [.val (.bool x.2.2.1.1), .val (.string x.2.2.1.2.1), .val (.string x.2.2.1.2.2.1), .val (.int .i64 x.2.2.1.2.2.2.1), .val (.bool x.2.2.1.2.2.2.2.1), .val (.bool r_0.2), .val (.string x.2.2.1.2.2.2.2.2.2.1)]]⟩) (fun (r_1 : ByteArray × Bool × Bool × ByteArray) => kx 0 ⟨[(0, [], .c (.o (.val (.string r_1.1)))), (4, [], .c (.o (.hd 0 0))), (6, [], .c (.o (.hd 1 0))), (7, [], .c (.o (.val (.string x.1.2.2.2.1))))], [], [.cells 123 [.val (.bool x.2.1.1), .val (.string x.2.1.2.1), .val (.string x.2.1.2.2.1), .val (.int .i64 x.2.1.2.2.2.1), .val (.bool x.2.1.2.2.2.2.1), .val (.bool x.2.1.2.2.2.2.2.1), .val (.string x.2.1.2.2.2.2.2.2.1)], .cells 123 [.val (.bool x.2.2.1.1), .val (.string x.2.2.1.2.1), .val (.string x.2.2.1.2.2.1), .val (.int .i64 x.2.2.1.2.2.2.1), .val (.bool r_1.2.1), .val (.bool r_1.2.2.1), .val (.string r_1.2.2.2)]]⟩)) r) (by kernel_rfl) fun x R kn kx kr => zac_p2_eq x.1.1 x.1.2.2.2.1 x.2.1.1 x.2.1.2.1 x.2.1.2.2.1 x.2.1.2.2.2.1 x.2.1.2.2.2.2.1 x.2.1.2.2.2.2.2.1 x.2.1.2.2.2.2.2.2.1 x.2.2.1.1 x.2.2.1.2.1 x.2.2.1.2.2.1 x.2.2.1.2.2.2.1 x.2.2.1.2.2.2.2.1 x.2.2.1.2.2.2.2.2.1 x.2.2.1.2.2.2.2.2.2.1 R kn kx kr
theorem zac_p4_eq (s : ByteArray) (behind : ByteArray) (res_minus : Bool) (res_whole : ByteArray) (res_digits : ByteArray) (res_point : Int) (res_plain : Bool) (res_down : Bool) (res_exp : ByteArray) (n_minus : Bool) (n_whole : ByteArray) (n_digits : ByteArray) (n_point : Int) (n_plain : Bool) (n_down : Bool) (n_exp : ByteArray) (R : Type) (kn : QS → Option R) (kx : Nat → QS → Option R) (kr : QS → Option R) :
  interpQ zac_L zac_G 0 15 139 zac_b4 ⟨[(0, [], .c (.o (.val (.string s)))), (4, [], .c (.o (.hd 0 0))), (6, [], .c (.o (.hd 1 0))), (7, [], .c (.o (.val (.string behind))))], [], [.cells 123 [.val (.bool res_minus), .val (.string res_whole), .val (.string res_digits), .val (.int .i64 res_point), .val (.bool res_plain), .val (.bool res_down), .val (.string res_exp)], .cells 123 [.val (.bool n_minus), .val (.string n_whole), .val (.string n_digits), .val (.int .i64 n_point), .val (.bool n_plain), .val (.bool n_down), .val (.string n_exp)]]⟩ kn kx kr = (zac_p4 s behind n_whole n_down n_exp).bind fun r => kr ⟨[(4, [], .c (.o (.hd 0 0))), (5, [], .c (.o (.val (.bool r.1))))], [], [.cells 123 [.val (.bool n_minus), .val (.string n_whole), .val (.string r.2.1), .val (.int .i64 r.2.2.1), .val (.bool n_plain), .val (.bool r.2.2.2), .val (.string n_exp)]]⟩ := by
 simp only [zac_p4, -eq_self, bind_cond, bind_gd, Option.bind_assoc, obS, Sum.elim_inl, Sum.elim_inr, bind_elim]
 kernel_rfl
theorem zac_sub4 : SubOK zac_L zac_G 0 15 139 4 zac_b4 := sub_ok' zac_d4 (fun x R kn kx kr => (zac_p4 x.1.1 x.1.2.2.2.1 x.2.2.1.2.1 x.2.2.1.2.2.2.2.2.1 x.2.2.1.2.2.2.2.2.2.1).bind fun r => kr ⟨[(4, [], .c (.o (.hd 0 0))), (5, [], .c (.o (.val (.bool r.1))))], [], [.cells 123 [.val (.bool x.2.2.1.1), .val (.string x.2.2.1.2.1), .val (.string r.2.1), .val (.int .i64 r.2.2.1), .val (.bool x.2.2.1.2.2.2.2.1), .val (.bool r.2.2.2), .val (.string x.2.2.1.2.2.2.2.2.2.1)]]⟩) (by kernel_rfl) fun x R kn kx kr => zac_p4_eq x.1.1 x.1.2.2.2.1 x.2.1.1 x.2.1.2.1 x.2.1.2.2.1 x.2.1.2.2.2.1 x.2.1.2.2.2.2.1 x.2.1.2.2.2.2.2.1 x.2.1.2.2.2.2.2.2.1 x.2.2.1.1 x.2.2.1.2.1 x.2.2.1.2.2.1 x.2.2.1.2.2.2.1 x.2.2.1.2.2.2.2.1 x.2.2.1.2.2.2.2.2.1 x.2.2.1.2.2.2.2.2.2.1 R kn kx kr
theorem zac_subs : subsOK zac_L zac_G 0 15 139 zac_q := subs_of (show AllSub zac_L zac_G 0 15 139 [(0, zac_b0), (1, zac_b1), (2, zac_b2), (3, zac_b3), (4, zac_b4)] from ⟨zac_sub0, zac_sub1, zac_sub2, zac_sub3, zac_sub4, trivial⟩)
theorem zac_eq (s : ByteArray) (part : Int) (R : Type) (k : SV → List SB → Option R) :
  fnQ zac_L zac_G 15 139 zac_q [.cell 4 (some 7), .tmp 5] [.c (.o (.val (.string s))), .c (.o (.val (.int .i64 part)))] [] k = (zac_s s part).bind fun r => k (.tup [.agg [.val (.bool r.1.minus), .val (.string r.1.whole), .val (.string r.1.digits), .val (.int .i64 r.1.point), .val (.bool r.1.plain), .val (.bool r.1.down), .val (.string r.1.exp_)], .o (.val (.bool r.2))]) [] := by
 simp only [zac_s, -eq_self, bind_cond, bind_gd, Option.bind_assoc, obS, Sum.elim_inl, Sum.elim_inr, bind_elim]
 kernel_rfl
def zac_da := (dCons (dVC (dCO dS)) (dCons (dVC (dCO (dI .i64))) dNil))
def zac_db := (dNil : Dec Unit (List SB))
def zac_c : CS := fun args hp R k => (Dec.d zac_da args).bind fun x => (Dec.d zac_db hp).bind fun y => (zac_s x.1 x.2.1).bind fun r => k (.tup [.agg [.val (.bool r.1.minus), .val (.string r.1.whole), .val (.string r.1.digits), .val (.int .i64 r.1.point), .val (.bool r.1.plain), .val (.bool r.1.down), .val (.string r.1.exp_)], .o (.val (.bool r.2))]) []
theorem zac_val : ValidS Tryd.prog 88 zac_c :=
 val_ok zac_chk 15 zac_Gok zac_da zac_db 0 (fun x y R k => (zac_s x.1 x.2.1).bind fun r => k (.tup [.agg [.val (.bool r.1.minus), .val (.string r.1.whole), .val (.string r.1.digits), .val (.int .i64 r.1.point), .val (.bool r.1.plain), .val (.bool r.1.down), .val (.string r.1.exp_)], .o (.val (.bool r.2))]) []) (by kernel_rfl)
  (fun x y R k => by simp only [Option.bind_assoc, obS]) (fun x => Nat.le_of_ble_eq_true rfl) (fun y => rfl) zac_subs fun x y => zac_eq x.1 x.2.1 _ _
def zac_w : CQ := liftV [] zac_c
theorem zac_ok : ValidQ Tryd.prog 88 zac_w := liftV_valid zac_val

/-! ### signet/decimal.Valid -/
def zaa_q : IQ :=
 (.seq
 (.reg 2 none [
  oP 2 (.mv (.v (.bool false)))])
 (.seq
 (.reg 4 none [
  oP 6 (.mv (.t 0)),
  oP 7 (.call 88 [(.t 6), (.v (.int .i64 0))]),
  oP 5 (.mv (.t 7)),
  oP 8 (.extract (.t 5) 0),
  oP 9 (.extract (.t 5) 1),
  oP 3 (.alloc 123 [.bool false, .string ⟨#[]⟩, .string ⟨#[]⟩, .int .i64 0, .bool false, .bool false, .string ⟨#[]⟩]),
  ⟨none, .store 7 (.t 3) (.t 8), none⟩,
  oP 4 (.mv (.t 9))])
 (.seq
 (.reg 2 none [
  oP 10 (.mv (.t 4)),
  oP 2 (.mv (.t 10))])
 (.canon [] [2] .ret))))
theorem zaa_chk : chk Tryd.prog 70 [] = some (zaa_q.erase, [.tmp 2], 11) := by kernel_rfl
def zaa_s (text : ByteArray) : Option Bool :=
 (zac_s text (0 : Int)).bind fun r1 =>
 some r1.2
def zaa_G : Nat → Option CQ := tblQ [(88, zac_w)]
theorem zaa_Gok : ∀ f C, zaa_G f = some C → ValidQ Tryd.prog f C := tblQ_valid ⟨zac_ok, trivial⟩
def zaa_L : Nat → SubQ := tblL []
theorem zaa_subs : subsOK zaa_L zaa_G 0 5 11 zaa_q := subs_of (show AllSub zaa_L zaa_G 0 5 11 [] from trivial)
theorem zaa_eq (text : ByteArray) (R : Type) (k : SV → List SB → Option R) :
  fnQ zaa_L zaa_G 5 11 zaa_q [.tmp 2] [.c (.o (.val (.string text)))] [] k = (zaa_s text).bind fun r => k (.c (.o (.val (.bool r)))) [] := by
 simp only [zaa_s, -eq_self, bind_cond, bind_gd, Option.bind_assoc, obS, Sum.elim_inl, Sum.elim_inr, bind_elim]
 kernel_rfl
def zaa_da := (dCons (dVC (dCO dS)) dNil)
def zaa_db := (dNil : Dec Unit (List SB))
def zaa_c : CS := fun args hp R k => (Dec.d zaa_da args).bind fun x => (Dec.d zaa_db hp).bind fun y => (zaa_s x.1).bind fun r => k (.c (.o (.val (.bool r)))) []
theorem zaa_val : ValidS Tryd.prog 70 zaa_c :=
 val_ok zaa_chk 5 zaa_Gok zaa_da zaa_db 0 (fun x y R k => (zaa_s x.1).bind fun r => k (.c (.o (.val (.bool r)))) []) (by kernel_rfl)
  (fun x y R k => by simp only [Option.bind_assoc, obS]) (fun x => Nat.le_of_ble_eq_true rfl) (fun y => rfl) zaa_subs fun x y => zaa_eq x.1 _ _
def zaa_w : CQ := liftV [] zaa_c
theorem zaa_ok : ValidQ Tryd.prog 70 zaa_w := liftV_valid zaa_val

/-! ### signet/decimal.Whole -/
def zab_b0 : IQ :=
 (.loop [4, 6, 23, 24]
  (.seq
  (.reg 25 none [
   oP 25 (.bin false .lss (.t 24) (.t 23))])
  (.seq
  (.cond (.t 25)
   .skip
   (.canon [] [4, 6] (.exit 0)))
  (.seq
  (.block 1
   (.seq
   (.reg 7 none [
    oP 26 (.mv (.t 24)),
    oP 7 (.mv (.t 26))])
   (.seq
   (.reg 8 none [
    oP 27 (.faddr 1 (.t 4)),
    oP 28 (.load none (.t 27)),
    oP 29 (.mv (.t 7)),
    oP 30 (.index (.t 28) (.t 29)),
    oP 31 (.bin false .sub (.t 30) (.v (.int .u8 48))),
    oP 32 (.conv false .u64 (.t 31)),
    oP 8 (.mv (.t 32))])
   (.seq
   (.seq
   (.reg 37 none [
    oP 33 (.mv (.t 6)),
    oP 34 (.mv (.t 8)),
    oP 35 (.bin false .sub (.v (.int .u64 9223372036854775808)) (.t 34)),
    oP 36 (.bin false .quo (.t 35) (.v (.int .u64 10))),
    oP 37 (.bin false .gtr (.t 33) (.t 36))])
   (.cond (.t 37)
    (.seq
    (.reg 3 none [
     oP 2 (.mv (.v (.int .i64 0))),
     oP 3 (.mv (.v (.bool false)))])
    (.canon [] [2, 3] .ret))
    .skip))
   (.reg 6 none [
    oP 38 (.mv (.t 6)),
    oP 39 (.bin false .mul (.v (.int .u64 10)) (.t 38)),
    oP 40 (.mv (.t 8)),
    oP 41 (.bin false .add (.t 39) (.t 40)),
    oP 6 (.mv (.t 41))])))))
  (.reg 24 none [
   oP 42 (.bin false .add (.t 24) (.v (.int .i64 1))),
   oP 24 (.mv (.t 42))])))))
def zab_q : IQ :=
 (.seq
 (.reg 3 none [
  oP 2 (.mv (.v (.int .i64 0))),
  oP 3 (.mv (.v (.bool false)))])
 (.seq
 (.reg 5 none [
  oP 10 (.mv (.t 0)),
  oP 11 (.call 88 [(.t 10), (.v (.int .i64 0))]),
  oP 9 (.mv (.t 11)),
  oP 12 (.extract (.t 9) 0),
  oP 13 (.extract (.t 9) 1),
  oP 4 (.alloc 123 [.bool false, .string ⟨#[]⟩, .string ⟨#[]⟩, .int .i64 0, .bool false, .bool false, .string ⟨#[]⟩]),
  ⟨none, .store 7 (.t 4) (.t 12), none⟩,
  oP 5 (.mv (.t 13))])
 (.seq
 (.seq
 (.reg 20 none [
  oP 14 (.mv (.t 5)),
  oP 15 (.un .not (.t 14)),
  oP 16 (.mv (.t 15)),
  oG 17 (.faddr 4 (.t 4)) 16 false,
  oG 18 (.load none (.t 17)) 16 false,
  oG 19 (.un .not (.t 18)) 16 false,
  oP 20 (.pick (.t 16) (.v (.bool true)) (.t 19))])
 (.cond (.t 20)
  (.seq
  (.reg 3 none [
   oP 2 (.mv (.v (.int .i64 0))),
   oP 3 (.mv (.v (.bool false)))])
  (.canon [] [2, 3] .ret))
  .skip))
 (.seq
 (.reg 6 none [
  oP 6 (.mv (.v (.int .u64 0)))])
 (.seq
 (.seq
 (.reg 24 none [
  oP 21 (.faddr 1 (.t 4)),
  oP 22 (.load none (.t 21)),
  oP 23 (.lenS (.t 22)),
  oP 24 (.mv (.v (.int .i64 0)))])
 (.block 0
  (.canon [] [4, 6, 23, 24] (.sub 0 zab_b0))))
 (.seq
 (.seq
 (.reg 49 none [
  oP 43 (.faddr 0 (.t 4)),
  oP 44 (.load none (.t 43)),
  oP 45 (.un .not (.t 44)),
  oP 46 (.mv (.t 45)),
  oG 47 (.mv (.t 6)) 46 true,
  oG 48 (.bin false .eql (.t 47) (.v (.int .u64 9223372036854775808))) 46 true,
  oP 49 (.pick (.t 46) (.t 48) (.v (.bool false)))])
 (.cond (.t 49)
  (.seq
  (.reg 3 none [
   oP 2 (.mv (.v (.int .i64 0))),
   oP 3 (.mv (.v (.bool false)))])
  (.canon [] [2, 3] .ret))
  .skip))
 (.seq
 (.seq
 (.reg 51 none [
  oP 50 (.faddr 0 (.t 4)),
  oP 51 (.load none (.t 50))])
 (.cond (.t 51)
  (.reg 6 none [
   oP 52 (.mv (.t 6)),
   oP 53 (.un .neg (.t 52)),
   oP 6 (.mv (.t 53))])
  .skip))
 (.seq
 (.reg 3 none [
  oP 54 (.mv (.t 6)),
  oP 55 (.conv true .i64 (.t 54)),
  oP 2 (.mv (.t 55)),
  oP 3 (.mv (.v (.bool true)))])
 (.canon [] [2, 3] .ret)))))))))
theorem zab_chk : chk Tryd.prog 69 [55] = some (zab_q.erase, [.tmp 2, .tmp 3], 56) := by kernel_rfl
def zab_p0_step (v : Int) (x23_ : Int) (x24_ : Int) (n_whole : ByteArray) : Option ((Int × Int) ⊕ ((Int × Bool) ⊕ Int)) :=
 bif decide (x24_ < x23_) then (
  gd (0 ≤ x24_ ∧ x24_ < n_whole.size) <|
  gd (0 ≤ (((9223372036854775808 : Int) - ((((bAt n_whole x24_) - (48 : Int)) % 256) % 18446744073709551616)) % 18446744073709551616) ∧ (((9223372036854775808 : Int) - ((((bAt n_whole x24_) - (48 : Int)) % 256) % 18446744073709551616)) % 18446744073709551616) ≤ 18446744073709551615 ∧ 1 ≤ (10 : Int)) <|
  bif decide (((((9223372036854775808 : Int) - ((((bAt n_whole x24_) - (48 : Int)) % 256) % 18446744073709551616)) % 18446744073709551616) / (10 : Int)) < v) then (
   some (.inr (.inl ((0 : Int), false))))
  else (
   gd (InI64 (x24_ + (1 : Int))) <|
   some (.inl ((((((10 : Int) * v) % 18446744073709551616) + ((((bAt n_whole x24_) - (48 : Int)) % 256) % 18446744073709551616)) % 18446744073709551616), (x24_ + (1 : Int))))))
 else (
  some (.inr (.inr v)))
def zab_p0 (v : Int) (x23_ : Int) (x24_ : Int) (n_whole : ByteArray) : Option ((Int × Bool) ⊕ Int) :=
 whileO (fun x : (Int × Int) => zab_p0_step x.1 x23_ x.2 n_whole) (v, x24_)
def zab_s (text : ByteArray) : Option (Int × Bool) :=
 (zac_s text (0 : Int)).bind fun r3 =>
 bif ((!r3.2) || (!r3.1.plain)) then (
  some ((0 : Int), false))
 else (
  (zab_p0 (0 : Int) (r3.1.whole.size : Int) (0 : Int) r3.1.whole).bind fun o4 => (Sum.elim (fun (o4_0 : Int × Bool) =>
   some (o4_0.1, o4_0.2)) (fun (o4_1 : Int) =>
   bif ((!r3.1.minus) && (decide (o4_1 = (9223372036854775808 : Int)))) then (
    some ((0 : Int), false))
   else (
    bif r3.1.minus then (
     some (w64 ((0 - o4_1) % 18446744073709551616), true))
    else (
     some (w64 o4_1, true))))) o4)
def zab_G : Nat → Option CQ := tblQ [(88, zac_w)]
theorem zab_Gok : ∀ f C, zab_G f = some C → ValidQ Tryd.prog f C := tblQ_valid ⟨zac_ok, trivial⟩
def zab_d0 := (dQS (dCons (dSl 4 (dVC (dCO (dH 0 0)))) (dCons (dSl 6 (dVC (dCO (dI .u64)))) (dCons (dSl 23 (dVC (dCO (dI .i64)))) (dCons (dSl 24 (dVC (dCO (dI .i64)))) dNil)))) (dCons (dCells 123 (dCons dB (dCons dS (dCons dS (dCons (dI .i64) (dCons dB (dCons dB (dCons dS dNil)))))))) dNil))
def zab_l0 : SubQ := fun S R kn kx kr => (Dec.d zab_d0 S).bind fun x => (zab_p0 x.1.2.1 x.1.2.2.1 x.1.2.2.2.1 x.2.1.2.1).bind fun r => (Sum.elim (fun (r_0 : Int × Bool) => kr ⟨[(2, [], .c (.o (.val (.int .i64 r_0.1)))), (3, [], .c (.o (.val (.bool r_0.2))))], [], []⟩) (fun (r_1 : Int) => kx 0 ⟨[(4, [], .c (.o (.hd 0 0))), (6, [], .c (.o (.val (.int .u64 r_1))))], [], [.cells 123 [.val (.bool x.2.1.1), .val (.string x.2.1.2.1), .val (.string x.2.1.2.2.1), .val (.int .i64 x.2.1.2.2.2.1), .val (.bool x.2.1.2.2.2.2.1), .val (.bool x.2.1.2.2.2.2.2.1), .val (.string x.2.1.2.2.2.2.2.2.1)]]⟩)) r
def zab_L : Nat → SubQ := tblL [(0, zab_l0)]
theorem zab_p0_eq (v : Int) (x23_ : Int) (x24_ : Int) (n_minus : Bool) (n_whole : ByteArray) (n_digits : ByteArray) (n_point : Int) (n_plain : Bool) (n_down : Bool) (n_exp : ByteArray) (R : Type) (kn : QS → Option R) (kx : Nat → QS → Option R) (kr : QS → Option R) :
  interpQ zab_L zab_G 0 25 56 zab_b0 ⟨[(4, [], .c (.o (.hd 0 0))), (6, [], .c (.o (.val (.int .u64 v)))), (23, [], .c (.o (.val (.int .i64 x23_)))), (24, [], .c (.o (.val (.int .i64 x24_))))], [], [.cells 123 [.val (.bool n_minus), .val (.string n_whole), .val (.string n_digits), .val (.int .i64 n_point), .val (.bool n_plain), .val (.bool n_down), .val (.string n_exp)]]⟩ kn kx kr = (zab_p0 v x23_ x24_ n_whole).bind fun r => (Sum.elim (fun (r_0 : Int × Bool) => kr ⟨[(2, [], .c (.o (.val (.int .i64 r_0.1)))), (3, [], .c (.o (.val (.bool r_0.2))))], [], []⟩) (fun (r_1 : Int) => kx 0 ⟨[(4, [], .c (.o (.hd 0 0))), (6, [], .c (.o (.val (.int .u64 r_1))))], [], [.cells 123 [.val (.bool n_minus), .val (.string n_whole), .val (.string n_digits), .val (.int .i64 n_point), .val (.bool n_plain), .val (.bool n_down), .val (.string n_exp)]]⟩)) r := by
 refine loop_piece (step := fun x => zab_p0_step x.1 x23_ x.2 n_whole) (enc := fun x => ⟨[(4, [], .c (.o (.hd 0 0))), (6, [], .c (.o (.val (.int .u64 x.1)))), (23, [], .c (.o (.val (.int .i64 x23_)))), (24, [], .c (.o (.val (.int .i64 x.2))))], [], [.cells 123 [.val (.bool n_minus), .val (.string n_whole), .val (.string n_digits), .val (.int .i64 n_point), .val (.bool n_plain), .val (.bool n_down), .val (.string n_exp)]]⟩) (ko := fun r => (Sum.elim (fun (r_0 : Int × Bool) => kr ⟨[(2, [], .c (.o (.val (.int .i64 r_0.1)))), (3, [], .c (.o (.val (.bool r_0.2))))], [], []⟩) (fun (r_1 : Int) => kx 0 ⟨[(4, [], .c (.o (.hd 0 0))), (6, [], .c (.o (.val (.int .u64 r_1))))], [], [.cells 123 [.val (.bool n_minus), .val (.string n_whole), .val (.string n_digits), .val (.int .i64 n_point), .val (.bool n_plain), .val (.bool n_down), .val (.string n_exp)]]⟩)) r) ?_ ?_ (v, x24_)
 ·intro x; kernel_rfl
 ·intro x ki; simp only [zab_p0_step, -eq_self, bind_cond, bind_gd, Option.bind_assoc, obS, Sum.elim_inl, Sum.elim_inr, bind_elim]; kernel_rfl
theorem zab_sub0 : SubOK zab_L zab_G 0 25 56 0 zab_b0 := sub_ok' zab_d0 (fun x R kn kx kr => (zab_p0 x.1.2.1 x.1.2.2.1 x.1.2.2.2.1 x.2.1.2.1).bind fun r => (Sum.elim (fun (r_0 : Int × Bool) => kr ⟨[(2, [], .c (.o (.val (.int .i64 r_0.1)))), (3, [], .c (.o (.val (.bool r_0.2))))], [], []⟩) (fun (r_1 : Int) => kx 0 ⟨[(4, [], .c (.o (.hd 0 0))), (6, [], .c (.o (.val (.int .u64 r_1))))], [], [.cells 123 [.val (.bool x.2.1.1), .val (.string x.2.1.2.1), .val (.string x.2.1.2.2.1), .val (.int .i64 x.2.1.2.2.2.1), .val (.bool x.2.1.2.2.2.2.1), .val (.bool x.2.1.2.2.2.2.2.1), .val (.string x.2.1.2.2.2.2.2.2.1)]]⟩)) r) (by kernel_rfl) fun x R kn kx kr => zab_p0_eq x.1.2.1 x.1.2.2.1 x.1.2.2.2.1 x.2.1.1 x.2.1.2.1 x.2.1.2.2.1 x.2.1.2.2.2.1 x.2.1.2.2.2.2.1 x.2.1.2.2.2.2.2.1 x.2.1.2.2.2.2.2.2.1 R kn kx kr
theorem zab_subs : subsOK zab_L zab_G 0 25 56 zab_q := subs_of (show AllSub zab_L zab_G 0 25 56 [(0, zab_b0)] from ⟨zab_sub0, trivial⟩)
theorem zab_eq (text : ByteArray) (R : Type) (k : SV → List SB → Option R) :
  fnQ zab_L zab_G 25 56 zab_q [.tmp 2, .tmp 3] [.c (.o (.val (.string text)))] [] k = (zab_s text).bind fun r => k (.tup [.o (.val (.int .i64 r.1)), .o (.val (.bool r.2))]) [] := by
 simp only [zab_s, -eq_self, bind_cond, bind_gd, Option.bind_assoc, obS, Sum.elim_inl, Sum.elim_inr, bind_elim]
 kernel_rfl
def zab_da := (dCons (dVC (dCO dS)) dNil)
def zab_db := (dNil : Dec Unit (List SB))
def zab_c : CS := fun args hp R k => (Dec.d zab_da args).bind fun x => (Dec.d zab_db hp).bind fun y => (zab_s x.1).bind fun r => k (.tup [.o (.val (.int .i64 r.1)), .o (.val (.bool r.2))]) []
theorem zab_val : ValidS Tryd.prog 69 zab_c :=
 val_ok zab_chk 25 zab_Gok zab_da zab_db 0 (fun x y R k => (zab_s x.1).bind fun r => k (.tup [.o (.val (.int .i64 r.1)), .o (.val (.bool r.2))]) []) (by kernel_rfl)
  (fun x y R k => by simp only [Option.bind_assoc, obS]) (fun x => Nat.le_of_ble_eq_true rfl) (fun y => rfl) zab_subs fun x y => zab_eq x.1 _ _
def zab_w : CQ := liftV [] zab_c
theorem zab_ok : ValidQ Tryd.prog 69 zab_w := liftV_valid zab_val

/-! ### signet/signetref2.digit -/
def zav_q : IQ :=
 (.seq
 (.reg 4 none [
  oP 4 (.mv (.v (.bool false)))])
 (.seq
 (.reg 4 none [
  oP 5 (.mv (.t 1)),
  oP 6 (.mv (.t 0)),
  oP 7 (.lenS (.t 6)),
  oP 8 (.bin false .lss (.t 5) (.t 7)),
  oP 9 (.mv (.t 8)),
  oG 10 (.mv (.t 0)) 9 true,
  oG 11 (.mv (.t 1)) 9 true,
  oG 12 (.index (.t 10) (.t 11)) 9 true,
  oG 13 (.bin false .geq (.t 12) (.v (.int .u8 48))) 9 true,
  oP 14 (.pick (.t 9) (.t 13) (.v (.bool false))),
  oP 15 (.mv (.t 14)),
  oG 16 (.mv (.t 0)) 15 true,
  oG 17 (.mv (.t 1)) 15 true,
  oG 18 (.index (.t 16) (.t 17)) 15 true,
  oG 19 (.bin false .leq (.t 18) (.v (.int .u8 57))) 15 true,
  oP 20 (.pick (.t 15) (.t 19) (.v (.bool false))),
  oP 4 (.mv (.t 20))])
 (.canon [] [4] .ret)))
theorem zav_chk : chk Tryd.prog 119 [] = some (zav_q.erase, [.tmp 4], 21) := by kernel_rfl
def zav_s (s : ByteArray) (at_ : Int) : Option Bool :=
 gd ((decide (at_ < (s.size : Int))) = true → 0 ≤ at_ ∧ at_ < s.size) <|
 gd (((decide (at_ < (s.size : Int))) && (decide ((48 : Int) ≤ (bAt s at_)))) = true → 0 ≤ at_ ∧ at_ < s.size) <|
 some (((decide (at_ < (s.size : Int))) && (decide ((48 : Int) ≤ (bAt s at_)))) && (decide ((bAt s at_) ≤ (57 : Int))))
def zav_G : Nat → Option CQ := tblQ []
theorem zav_Gok : ∀ f C, zav_G f = some C → ValidQ Tryd.prog f C := fun f C h => by cases h
def zav_L : Nat → SubQ := tblL []
theorem zav_subs : subsOK zav_L zav_G 0 5 21 zav_q := subs_of (show AllSub zav_L zav_G 0 5 21 [] from trivial)
theorem zav_eq (s : ByteArray) (at_ : Int) (R : Type) (k : SV → List SB → Option R) :
  fnQ zav_L zav_G 5 21 zav_q [.tmp 4] [.c (.o (.val (.string s))), .c (.o (.val (.int .i64 at_)))] [] k = (zav_s s at_).bind fun r => k (.c (.o (.val (.bool r)))) [] := by
 simp only [zav_s, -eq_self, bind_cond, bind_gd, Option.bind_assoc, obS, Sum.elim_inl, Sum.elim_inr, bind_elim]
 kernel_rfl
def zav_da := (dCons (dVC (dCO dS)) (dCons (dVC (dCO (dI .i64))) dNil))
def zav_db := (dNil : Dec Unit (List SB))
def zav_c : CS := fun args hp R k => (Dec.d zav_da args).bind fun x => (Dec.d zav_db hp).bind fun y => (zav_s x.1 x.2.1).bind fun r => k (.c (.o (.val (.bool r)))) []
theorem zav_val : ValidS Tryd.prog 119 zav_c :=
 val_ok zav_chk 5 zav_Gok zav_da zav_db 0 (fun x y R k => (zav_s x.1 x.2.1).bind fun r => k (.c (.o (.val (.bool r)))) []) (by kernel_rfl)
  (fun x y R k => by simp only [Option.bind_assoc, obS]) (fun x => Nat.le_of_ble_eq_true rfl) (fun y => rfl) zav_subs fun x y => zav_eq x.1 x.2.1 _ _
def zav_w : CQ := liftV [] zav_c
theorem zav_ok : ValidQ Tryd.prog 119 zav_w := liftV_valid zav_val

/-! ### signet/signetref2.many -/
def zaw_b0 : IQ :=
 (.loop [0, 1]
  (.seq
  (.seq
  (.reg 7 none [
   oP 5 (.mv (.t 0)),
   oP 6 (.mv (.t 1)),
   oP 7 (.call 119 [(.t 5), (.t 6)])])
  (.cond (.t 7)
   .skip
   (.canon [] [1] (.exit 0))))
  (.block 1
   (.reg 1 none [
    oP 8 (.mv (.t 1)),
    oP 9 (.bin false .add (.t 8) (.v (.int .i64 1))),
    oP 1 (.mv (.t 9))]))))
def zaw_q : IQ :=
 (.seq
 (.reg 4 none [
  oP 4 (.mv (.v (.int .i64 0)))])
 (.seq
 (.block 0
  (.canon [] [0, 1] (.sub 0 zaw_b0)))
 (.seq
 (.reg 4 none [
  oP 10 (.mv (.t 1)),
  oP 4 (.mv (.t 10))])
 (.canon [] [4] .ret))))
theorem zaw_chk : chk Tryd.prog 105 [] = some (zaw_q.erase, [.tmp 4], 11) := by kernel_rfl
def zaw_p0_step (s : ByteArray) (at_ : Int) : Option (Int ⊕ Int) :=
 (zav_s s at_).bind fun r2 =>
 bif r2 then (
  gd (InI64 (at_ + (1 : Int))) <|
  some (.inl (at_ + (1 : Int))))
 else (
  some (.inr at_))
def zaw_p0 (s : ByteArray) (at_ : Int) : Option Int :=
 whileO (fun x : Int => zaw_p0_step s x) at_
def zaw_s (s : ByteArray) (at_ : Int) : Option Int :=
 (zaw_p0 s at_).bind fun o3 =>
 some o3
def zaw_G : Nat → Option CQ := tblQ [(119, zav_w)]
theorem zaw_Gok : ∀ f C, zaw_G f = some C → ValidQ Tryd.prog f C := tblQ_valid ⟨zav_ok, trivial⟩
def zaw_d0 := (dQS (dCons (dSl 0 (dVC (dCO dS))) (dCons (dSl 1 (dVC (dCO (dI .i64)))) dNil)) dNil)
def zaw_l0 : SubQ := fun S R kn kx kr => (Dec.d zaw_d0 S).bind fun x => (zaw_p0 x.1.1 x.1.2.1).bind fun r => kx 0 ⟨[(1, [], .c (.o (.val (.int .i64 r))))], [], []⟩
def zaw_L : Nat → SubQ := tblL [(0, zaw_l0)]
theorem zaw_p0_eq (s : ByteArray) (at_ : Int) (R : Type) (kn : QS → Option R) (kx : Nat → QS → Option R) (kr : QS → Option R) :
  interpQ zaw_L zaw_G 0 5 11 zaw_b0 ⟨[(0, [], .c (.o (.val (.string s)))), (1, [], .c (.o (.val (.int .i64 at_))))], [], []⟩ kn kx kr = (zaw_p0 s at_).bind fun r => kx 0 ⟨[(1, [], .c (.o (.val (.int .i64 r))))], [], []⟩ := by
 refine loop_piece (step := fun x => zaw_p0_step s x) (enc := fun x => ⟨[(0, [], .c (.o (.val (.string s)))), (1, [], .c (.o (.val (.int .i64 x))))], [], []⟩) (ko := fun r => kx 0 ⟨[(1, [], .c (.o (.val (.int .i64 r))))], [], []⟩) ?_ ?_ at_
 ·intro x; kernel_rfl
 ·intro x ki; simp only [zaw_p0_step, -eq_self, bind_cond, bind_gd, Option.bind_assoc, obS, Sum.elim_inl, Sum.elim_inr, bind_elim]; kernel_rfl
theorem zaw_sub0 : SubOK zaw_L zaw_G 0 5 11 0 zaw_b0 := sub_ok' zaw_d0 (fun x R kn kx kr => (zaw_p0 x.1.1 x.1.2.1).bind fun r => kx 0 ⟨[(1, [], .c (.o (.val (.int .i64 r))))], [], []⟩) (by kernel_rfl) fun x R kn kx kr => zaw_p0_eq x.1.1 x.1.2.1 R kn kx kr
theorem zaw_subs : subsOK zaw_L zaw_G 0 5 11 zaw_q := subs_of (show AllSub zaw_L zaw_G 0 5 11 [(0, zaw_b0)] from ⟨zaw_sub0, trivial⟩)
theorem zaw_eq (s : ByteArray) (at_ : Int) (R : Type) (k : SV → List SB → Option R) :
  fnQ zaw_L zaw_G 5 11 zaw_q [.tmp 4] [.c (.o (.val (.string s))), .c (.o (.val (.int .i64 at_)))] [] k = (zaw_s s at_).bind fun r => k (.c (.o (.val (.int .i64 r)))) [] := by
 simp only [zaw_s, -eq_self, bind_cond, bind_gd, Option.bind_assoc, obS, Sum.elim_inl, Sum.elim_inr, bind_elim]
 kernel_rfl
def zaw_da := (dCons (dVC (dCO dS)) (dCons (dVC (dCO (dI .i64))) dNil))
def zaw_db := (dNil : Dec Unit (List SB))
def zaw_c : CS := fun args hp R k => (Dec.d zaw_da args).bind fun x => (Dec.d zaw_db hp).bind fun y => (zaw_s x.1 x.2.1).bind fun r => k (.c (.o (.val (.int .i64 r)))) []
theorem zaw_val : ValidS Tryd.prog 105 zaw_c :=
 val_ok zaw_chk 5 zaw_Gok zaw_da zaw_db 0 (fun x y R k => (zaw_s x.1 x.2.1).bind fun r => k (.c (.o (.val (.int .i64 r)))) []) (by kernel_rfl)
  (fun x y R k => by simp only [Option.bind_assoc, obS]) (fun x => Nat.le_of_ble_eq_true rfl) (fun y => rfl) zaw_subs fun x y => zaw_eq x.1 x.2.1 _ _
def zaw_w : CQ := liftV [] zaw_c
theorem zaw_ok : ValidQ Tryd.prog 105 zaw_w := liftV_valid zaw_val

/-! ### signet/signetref2.Read -/
def zas_b3 : IQ :=
 (.loop [0, 2, 4, 7, 9, 10]
  (.seq
  (.seq
  (.reg 140 none [
   oP 138 (.mv (.t 10)),
   oP 139 (.mv (.t 9)),
   oP 140 (.bin false .lss (.t 138) (.t 139))])
  (.cond (.t 140)
   .skip
   (.canon [] [0, 2, 4, 7, 9] (.exit 0))))
  (.seq
  (.block 1
   (.seq
   (.reg 152 none [
    oP 143 (.mv (.t 0)),
    oP 144 (.mv (.t 10)),
    oP 145 (.index (.t 143) (.t 144)),
    oP 146 (.bin false .neq (.t 145) (.v (.int .u8 48))),
    oP 147 (.mv (.t 146)),
    oG 148 (.faddr 4 (.t 4)) 147 false,
    oG 149 (.load none (.t 148)) 147 false,
    oG 150 (.len (.t 149)) 147 false,
    oG 151 (.bin false .gtr (.t 150) (.v (.int .i64 0))) 147 false,
    oP 152 (.pick (.t 147) (.v (.bool true)) (.t 151))])
   (.cond (.t 152)
    (.reg 0 (some [0, 1, 2, 3, 4, 5, 6, 7, 8, 9, 10]) [
     oP 153 (.faddr 4 (.t 4)),
     oP 154 (.load none (.t 153)),
     oP 155 (.mv (.t 0)),
     oP 156 (.mv (.t 10)),
     oP 157 (.index (.t 155) (.t 156)),
     oP 158 (.bin false .sub (.t 157) (.v (.int .u8 48))),
     oP 159 (.conv false .i64 (.t 158)),
     oP 160 (.bslice 3 1 1 [.int .i64 0] [(0, (.t 159))]),
     oP 161 (.append 3 1 8 [.int .i64 0] (.t 154) (.t 160)),
     oP 162 (.faddr 4 (.t 4)),
     ⟨none, .store 1 (.t 162) (.t 161), none⟩])
    .skip)))
  (.reg 10 none [
   oP 141 (.mv (.t 10)),
   oP 142 (.bin false .add (.t 141) (.v (.int .i64 1))),
   oP 10 (.mv (.t 142))]))))
def zas_b2 : IQ :=
 (.join [] [0, 2, 4, 5, 7]
 (.seq
 (.reg 9 none [
  oP 130 (.mv (.t 0)),
  oP 131 (.mv (.t 5)),
  oP 132 (.call 105 [(.t 130), (.t 131)]),
  oP 9 (.mv (.t 132))])
 (.seq
 (.seq
 (.reg 135 none [
  oP 133 (.mv (.t 9)),
  oP 134 (.mv (.t 5)),
  oP 135 (.bin false .eql (.t 133) (.t 134))])
 (.cond (.t 135)
  (.seq
  (.reg 3 none [
   oP 136 (.load (some 7) (.t 4)),
   ⟨none, .store 7 (.t 2) (.t 136), none⟩,
   oP 3 (.mv (.v (.bool false)))])
  (.canon [(2, some 1, .i64, 3), (2, some 4, .i64, 3)] [2, 3] .ret))
  .skip))
 (.seq
 (.seq
 (.reg 10 none [
  oP 137 (.mv (.t 5)),
  oP 10 (.mv (.t 137))])
 (.block 0
  (.canon [(4, some 4, .i64, 3)] [0, 2, 4, 7, 9, 10] (.sub 3 zas_b3))))
 (.reg 5 none [
  oP 163 (.mv (.t 9)),
  oP 5 (.mv (.t 163))])))))
def zas_b5 : IQ :=
 (.loop [2, 4, 7, 11]
  (.seq
  (.seq
  (.reg 172 none [
   oP 169 (.mv (.t 11)),
   oP 170 (.mv (.t 7)),
   oP 171 (.lenS (.t 170)),
   oP 172 (.bin false .lss (.t 169) (.t 171))])
  (.cond (.t 172)
   .skip
   (.canon [] [2, 4] (.exit 2))))
  (.seq
  (.block 3
   (.seq
   (.reg 12 none [
    oP 175 (.mv (.t 7)),
    oP 176 (.mv (.t 11)),
    oP 177 (.index (.t 175) (.t 176)),
    oP 178 (.bin false .sub (.t 177) (.v (.int .u8 48))),
    oP 179 (.conv false .i64 (.t 178)),
    oP 12 (.mv (.t 179))])
   (.seq
   (.reg 187 none [
    oP 180 (.mv (.t 12)),
    oP 181 (.bin false .neq (.t 180) (.v (.int .i64 0))),
    oP 182 (.mv (.t 181)),
    oG 183 (.faddr 1 (.t 4)) 182 false,
    oG 184 (.load none (.t 183)) 182 false,
    oG 185 (.len (.t 184)) 182 false,
    oG 186 (.bin false .gtr (.t 185) (.v (.int .i64 0))) 182 false,
    oP 187 (.pick (.t 182) (.v (.bool true)) (.t 186))])
   (.cond (.t 187)
    (.reg 0 none [
     oP 188 (.faddr 1 (.t 4)),
     oP 189 (.load none (.t 188)),
     oP 190 (.mv (.t 12)),
     oP 191 (.bslice 3 1 1 [.int .i64 0] [(0, (.t 190))]),
     oP 192 (.append 3 1 8 [.int .i64 0] (.t 189) (.t 191)),
     oP 193 (.faddr 1 (.t 4)),
     ⟨none, .store 1 (.t 193) (.t 192), none⟩])
    (.reg 0 none [
     oP 194 (.faddr 2 (.t 4)),
     oP 195 (.load none (.t 194)),
     oP 196 (.bin false .sub (.t 195) (.v (.int .i64 1))),
     oP 197 (.faddr 2 (.t 4)),
     ⟨none, .store 1 (.t 197) (.t 196), none⟩])))))
  (.reg 11 none [
   oP 173 (.mv (.t 11)),
   oP 174 (.bin false .add (.t 173) (.v (.int .i64 1))),
   oP 11 (.mv (.t 174))]))))
def zas_b6 : IQ :=
 (.loop [2, 4]
  (.seq
  (.seq
  (.reg 212 none [
   oP 198 (.faddr 1 (.t 4)),
   oP 199 (.load none (.t 198)),
   oP 200 (.len (.t 199)),
   oP 201 (.bin false .gtr (.t 200) (.v (.int .i64 0))),
   oP 202 (.mv (.t 201)),
   oG 203 (.faddr 1 (.t 4)) 202 true,
   oG 204 (.load none (.t 203)) 202 true,
   oG 205 (.faddr 1 (.t 4)) 202 true,
   oG 206 (.load none (.t 205)) 202 true,
   oG 207 (.len (.t 206)) 202 true,
   oG 208 (.bin false .sub (.t 207) (.v (.int .i64 1))) 202 true,
   oG 209 (.iaddr 1 (.t 204) (.t 208)) 202 true,
   oG 210 (.load none (.t 209)) 202 true,
   oG 211 (.bin false .eql (.t 210) (.v (.int .i64 0))) 202 true,
   oP 212 (.pick (.t 202) (.t 211) (.v (.bool false)))])
  (.cond (.t 212)
   .skip
   (.canon [] [2, 4] (.exit 4))))
  (.block 5
   (.reg 0 none [
    oP 213 (.faddr 1 (.t 4)),
    oP 214 (.load none (.t 213)),
    oP 215 (.faddr 1 (.t 4)),
    oP 216 (.load none (.t 215)),
    oP 217 (.len (.t 216)),
    oP 218 (.bin false .sub (.t 217) (.v (.int .i64 1))),
    oP 219 (.sub (some 1) (.t 214) none (some (.t 218))),
    oP 220 (.faddr 1 (.t 4)),
    ⟨none, .store 1 (.t 220) (.t 219), none⟩]))))
def zas_b4 : IQ :=
 (.seq
 (.seq
 (.reg 167 none [
  oP 164 (.mv (.t 5)),
  oP 165 (.mv (.t 0)),
  oP 166 (.lenS (.t 165)),
  oP 167 (.bin false .neq (.t 164) (.t 166))])
 (.cond (.t 167)
  (.seq
  (.reg 3 none [
   oP 168 (.load (some 7) (.t 4)),
   ⟨none, .store 7 (.t 2) (.t 168), none⟩,
   oP 3 (.mv (.v (.bool false)))])
  (.canon [(2, some 1, .i64, 3), (2, some 4, .i64, 3)] [2, 3] .ret))
  .skip))
 (.seq
 (.seq
 (.reg 11 none [
  oP 11 (.mv (.v (.int .i64 0)))])
 (.block 2
  (.canon [(4, some 1, .i64, 3)] [2, 4, 7, 11] (.sub 5 zas_b5))))
 (.seq
 (.block 4
  (.canon [] [2, 4] (.sub 6 zas_b6)))
 (.seq
 (.reg 3 none [
  oP 221 (.load (some 7) (.t 4)),
  ⟨none, .store 7 (.t 2) (.t 221), none⟩,
  oP 3 (.mv (.v (.bool true)))])
 (.canon [(2, some 1, .i64, 3), (2, some 4, .i64, 3)] [2, 3] .ret)))))
def zas_b1 : IQ :=
 (.seq
 (.seq
 (.reg 103 none [
  oP 88 (.mv (.t 5)),
  oP 89 (.mv (.t 0)),
  oP 90 (.lenS (.t 89)),
  oP 91 (.bin false .lss (.t 88) (.t 90)),
  oP 92 (.mv (.t 91)),
  oG 93 (.mv (.t 0)) 92 true,
  oG 94 (.mv (.t 5)) 92 true,
  oG 95 (.index (.t 93) (.t 94)) 92 true,
  oG 96 (.bin false .eql (.t 95) (.v (.int .u8 101))) 92 true,
  oG 97 (.mv (.t 96)) 92 true,
  oG 98 (.mv (.t 0)) 97 false,
  oG 99 (.mv (.t 5)) 97 false,
  oG 100 (.index (.t 98) (.t 99)) 97 false,
  oG 101 (.bin false .eql (.t 100) (.v (.int .u8 69))) 97 false,
  oG 102 (.pick (.t 97) (.v (.bool true)) (.t 101)) 92 true,
  oP 103 (.pick (.t 92) (.t 102) (.v (.bool false)))])
 (.cond (.t 103)
  (.seq
  (.reg 0 none [
   oP 104 (.faddr 5 (.t 4)),
   ⟨none, .store 1 (.t 104) (.v (.bool false)), none⟩])
  (.seq
  (.reg 5 none [
   oP 105 (.mv (.t 5)),
   oP 106 (.bin false .add (.t 105) (.v (.int .i64 1))),
   oP 5 (.mv (.t 106))])
  (.seq
  (.seq
  (.reg 122 none [
   oP 107 (.mv (.t 5)),
   oP 108 (.mv (.t 0)),
   oP 109 (.lenS (.t 108)),
   oP 110 (.bin false .lss (.t 107) (.t 109)),
   oP 111 (.mv (.t 110)),
   oG 112 (.mv (.t 0)) 111 true,
   oG 113 (.mv (.t 5)) 111 true,
   oG 114 (.index (.t 112) (.t 113)) 111 true,
   oG 115 (.bin false .eql (.t 114) (.v (.int .u8 43))) 111 true,
   oG 116 (.mv (.t 115)) 111 true,
   oG 117 (.mv (.t 0)) 116 false,
   oG 118 (.mv (.t 5)) 116 false,
   oG 119 (.index (.t 117) (.t 118)) 116 false,
   oG 120 (.bin false .eql (.t 119) (.v (.int .u8 45))) 116 false,
   oG 121 (.pick (.t 116) (.v (.bool true)) (.t 120)) 111 true,
   oP 122 (.pick (.t 111) (.t 121) (.v (.bool false)))])
  (.cond (.t 122)
   (.seq
   (.reg 0 none [
    oP 123 (.mv (.t 0)),
    oP 124 (.mv (.t 5)),
    oP 125 (.index (.t 123) (.t 124)),
    oP 126 (.bin false .eql (.t 125) (.v (.int .u8 45))),
    oP 127 (.faddr 3 (.t 4)),
    ⟨none, .store 1 (.t 127) (.t 126), none⟩])
   (.reg 5 none [
    oP 128 (.mv (.t 5)),
    oP 129 (.bin false .add (.t 128) (.v (.int .i64 1))),
    oP 5 (.mv (.t 129))]))
   .skip))
  (.canon [] [0, 2, 4, 5, 7] (.sub 2 zas_b2)))))
  .skip))
 (.canon [(4, some 4, .i64, 3)] [0, 2, 4, 5, 7] (.sub 4 zas_b4)))
def zas_b0 : IQ :=
 (.seq
 (.reg 6 none [
  oP 27 (.mv (.t 5)),
  oP 6 (.mv (.t 27))])
 (.seq
 (.reg 5 none [
  oP 28 (.mv (.t 0)),
  oP 29 (.mv (.t 5)),
  oP 30 (.call 105 [(.t 28), (.t 29)]),
  oP 5 (.mv (.t 30))])
 (.seq
 (.seq
 (.reg 45 none [
  oP 31 (.mv (.t 5)),
  oP 32 (.mv (.t 6)),
  oP 33 (.bin false .eql (.t 31) (.t 32)),
  oP 34 (.mv (.t 33)),
  oG 35 (.mv (.t 0)) 34 false,
  oG 36 (.mv (.t 6)) 34 false,
  oG 37 (.index (.t 35) (.t 36)) 34 false,
  oG 38 (.bin false .eql (.t 37) (.v (.int .u8 48))) 34 false,
  oG 39 (.mv (.t 38)) 34 false,
  oG 40 (.mv (.t 5)) 39 true,
  oG 41 (.mv (.t 6)) 39 true,
  oG 42 (.bin false .add (.t 41) (.v (.int .i64 1))) 39 true,
  oG 43 (.bin false .gtr (.t 40) (.t 42)) 39 true,
  oG 44 (.pick (.t 39) (.t 43) (.v (.bool false))) 34 false,
  oP 45 (.pick (.t 34) (.v (.bool true)) (.t 44))])
 (.cond (.t 45)
  (.seq
  (.reg 3 none [
   oP 46 (.load (some 7) (.t 4)),
   ⟨none, .store 7 (.t 2) (.t 46), none⟩,
   oP 3 (.mv (.v (.bool false)))])
  (.canon [(2, some 1, .i64, 3), (2, some 4, .i64, 3)] [2, 3] .ret))
  .skip))
 (.seq
 (.reg 0 none [
  oP 47 (.mv (.t 0)),
  oP 48 (.mv (.t 6)),
  oP 49 (.mv (.t 5)),
  oP 50 (.sub none (.t 47) (some (.t 48)) (some (.t 49))),
  oP 51 (.faddr 6 (.t 4)),
  ⟨none, .store 1 (.t 51) (.t 50), none⟩])
 (.seq
 (.reg 7 none [
  oP 52 (.mv (.t 0)),
  oP 53 (.mv (.t 6)),
  oP 54 (.mv (.t 5)),
  oP 55 (.sub none (.t 52) (some (.t 53)) (some (.t 54))),
  oP 7 (.mv (.t 55))])
 (.seq
 (.reg 0 none [
  oP 56 (.mv (.t 5)),
  oP 57 (.mv (.t 6)),
  oP 58 (.bin false .sub (.t 56) (.t 57)),
  oP 59 (.faddr 2 (.t 4)),
  ⟨none, .store 1 (.t 59) (.t 58), none⟩])
 (.seq
 (.seq
 (.reg 69 none [
  oP 60 (.mv (.t 5)),
  oP 61 (.mv (.t 0)),
  oP 62 (.lenS (.t 61)),
  oP 63 (.bin false .lss (.t 60) (.t 62)),
  oP 64 (.mv (.t 63)),
  oG 65 (.mv (.t 0)) 64 true,
  oG 66 (.mv (.t 5)) 64 true,
  oG 67 (.index (.t 65) (.t 66)) 64 true,
  oG 68 (.bin false .eql (.t 67) (.v (.int .u8 46))) 64 true,
  oP 69 (.pick (.t 64) (.t 68) (.v (.bool false)))])
 (.cond (.t 69)
  (.seq
  (.reg 0 none [
   oP 70 (.faddr 5 (.t 4)),
   ⟨none, .store 1 (.t 70) (.v (.bool false)), none⟩])
  (.seq
  (.reg 8 none [
   oP 71 (.mv (.t 0)),
   oP 72 (.mv (.t 5)),
   oP 73 (.bin false .add (.t 72) (.v (.int .i64 1))),
   oP 74 (.call 105 [(.t 71), (.t 73)]),
   oP 8 (.mv (.t 74))])
  (.seq
  (.seq
  (.reg 78 none [
   oP 75 (.mv (.t 8)),
   oP 76 (.mv (.t 5)),
   oP 77 (.bin false .add (.t 76) (.v (.int .i64 1))),
   oP 78 (.bin false .eql (.t 75) (.t 77))])
  (.cond (.t 78)
   (.seq
   (.reg 3 none [
    oP 79 (.load (some 7) (.t 4)),
    ⟨none, .store 7 (.t 2) (.t 79), none⟩,
    oP 3 (.mv (.v (.bool false)))])
   (.canon [(2, some 1, .i64, 3), (2, some 4, .i64, 3)] [2, 3] .ret))
   .skip))
  (.seq
  (.reg 7 none [
   oP 80 (.mv (.t 7)),
   oP 81 (.mv (.t 0)),
   oP 82 (.mv (.t 5)),
   oP 83 (.bin false .add (.t 82) (.v (.int .i64 1))),
   oP 84 (.mv (.t 8)),
   oP 85 (.sub none (.t 81) (some (.t 83)) (some (.t 84))),
   oP 86 (.bin false .add (.t 80) (.t 85)),
   oP 7 (.mv (.t 86))])
  (.reg 5 none [
   oP 87 (.mv (.t 8)),
   oP 5 (.mv (.t 87))])))))
  .skip))
 (.canon [] [0, 2, 4, 5, 7] (.sub 1 zas_b1)))))))))
def zas_q : IQ :=
 (.seq
 (.reg 3 none [
  oP 2 (.alloc 132 [.bool false, .slice none 0 0, .int .i64 0, .bool false, .slice none 0 0, .bool false, .string ⟨#[]⟩]),
  oP 3 (.mv (.v (.bool false)))])
 (.seq
 (.reg 0 none [
  oP 13 (.build [.bool false, .slice none 0 0, .int .i64 0, .bool false, .slice none 0 0, .bool false, .string ⟨#[]⟩] [(5, 1, (.v (.bool true)))]),
  oP 4 (.alloc 132 [.bool false, .slice none 0 0, .int .i64 0, .bool false, .slice none 0 0, .bool false, .string ⟨#[]⟩]),
  ⟨none, .store 7 (.t 4) (.t 13), none⟩])
 (.seq
 (.reg 5 none [
  oP 5 (.mv (.v (.int .i64 0)))])
 (.seq
 (.seq
 (.reg 23 none [
  oP 14 (.mv (.t 5)),
  oP 15 (.mv (.t 0)),
  oP 16 (.lenS (.t 15)),
  oP 17 (.bin false .lss (.t 14) (.t 16)),
  oP 18 (.mv (.t 17)),
  oG 19 (.mv (.t 0)) 18 true,
  oG 20 (.mv (.t 5)) 18 true,
  oG 21 (.index (.t 19) (.t 20)) 18 true,
  oG 22 (.bin false .eql (.t 21) (.v (.int .u8 45))) 18 true,
  oP 23 (.pick (.t 18) (.t 22) (.v (.bool false)))])
 (.cond (.t 23)
  (.seq
  (.reg 0 none [
   oP 24 (.faddr 0 (.t 4)),
   ⟨none, .store 1 (.t 24) (.v (.bool true)), none⟩])
  (.reg 5 none [
   oP 25 (.mv (.t 5)),
   oP 26 (.bin false .add (.t 25) (.v (.int .i64 1))),
   oP 5 (.mv (.t 26))]))
  .skip))
 (.canon [] [0, 2, 4, 5] (.sub 0 zas_b0))))))
theorem zas_chk : chk Tryd.prog 93 [] = some (zas_q.erase, [.cell 2 (some 7), .tmp 3], 222) := by kernel_rfl
def zas_p3_step (s : ByteArray) (k_ : Int) (i : Int) (n_Exp : List Int) : Option ((Int × (List Int)) ⊕ ((List Int))) :=
 bif decide (i < k_) then (
  gd (0 ≤ i ∧ i < s.size) <|
  bif ((!decide ((bAt s i) = (48 : Int))) || (decide ((0 : Int) < (n_Exp.length : Int)))) then (
   gd (0 ≤ i ∧ i < s.size) <|
   gd (InI64 (((bAt s i) - (48 : Int)) % 256)) <|
   gd (n_Exp.length + ([(((bAt s i) - (48 : Int)) % 256)] : List Int).length ≤ 9223372036854775807 ∧ (n_Exp.length + ([(((bAt s i) - (48 : Int)) % 256)] : List Int).length) * 8 ≤ 140737488355328) <|
   gd (InI64 (i + (1 : Int))) <|
   some (.inl ((i + (1 : Int)), (n_Exp ++ [(((bAt s i) - (48 : Int)) % 256)]))))
  else (
   gd (InI64 (i + (1 : Int))) <|
   some (.inl ((i + (1 : Int)), n_Exp))))
 else (
  some (.inr n_Exp))
def zas_p3 (s : ByteArray) (k_ : Int) (i : Int) (n_Exp : List Int) : Option ((List Int)) :=
 whileO (fun x : (Int × (List Int)) => zas_p3_step s k_ x.1 x.2) (i, n_Exp)
def zas_p2 (s : ByteArray) (at_ : Int) : Option ((Bool × (List Int) × (List Int)) ⊕ (Int × (List Int))) :=
 (zaw_s s at_).bind fun r81 =>
 bif decide (r81 = at_) then (
  some (.inl (false, [], [])))
 else (
  (zas_p3 s r81 at_ []).bind fun o82 =>
  some (.inr (r81, o82)))
def zas_p5_step (all : ByteArray) (i : Int) (n_Off : Int) (n_Digits : List Int) : Option ((Int × Int × (List Int)) ⊕ (Int × (List Int))) :=
 bif decide (i < (all.size : Int)) then (
  gd (0 ≤ i ∧ i < all.size) <|
  gd (InI64 (((bAt all i) - (48 : Int)) % 256)) <|
  bif ((!decide ((((bAt all i) - (48 : Int)) % 256) = (0 : Int))) || (decide ((0 : Int) < (n_Digits.length : Int)))) then (
   gd (n_Digits.length + ([(((bAt all i) - (48 : Int)) % 256)] : List Int).length ≤ 9223372036854775807 ∧ (n_Digits.length + ([(((bAt all i) - (48 : Int)) % 256)] : List Int).length) * 8 ≤ 140737488355328) <|
   gd (InI64 (i + (1 : Int))) <|
   some (.inl ((i + (1 : Int)), n_Off, (n_Digits ++ [(((bAt all i) - (48 : Int)) % 256)]))))
  else (
   gd (InI64 (n_Off - (1 : Int))) <|
   gd (InI64 (i + (1 : Int))) <|
   some (.inl ((i + (1 : Int)), (n_Off - (1 : Int)), n_Digits))))
 else (
  some (.inr (n_Off, n_Digits)))
def zas_p5 (all : ByteArray) (i : Int) (n_Off : Int) (n_Digits : List Int) : Option (Int × (List Int)) :=
 whileO (fun x : (Int × Int × (List Int)) => zas_p5_step all x.1 x.2.1 x.2.2) (i, n_Off, n_Digits)
def zas_p6_step (n_Digits : List Int) : Option (((List Int)) ⊕ ((List Int))) :=
 gd ((decide ((0 : Int) < (n_Digits.length : Int))) = true → InI64 ((n_Digits.length : Int) - (1 : Int))) <|
 gd ((decide ((0 : Int) < (n_Digits.length : Int))) = true → 0 ≤ ((n_Digits.length : Int) - (1 : Int)) ∧ ((n_Digits.length : Int) - (1 : Int)) < n_Digits.length) <|
 gd ((decide ((0 : Int) < (n_Digits.length : Int))) = true → (Int.toNat ((n_Digits.length : Int) - (1 : Int))) < n_Digits.length) <|
 bif ((decide ((0 : Int) < (n_Digits.length : Int))) && (decide ((n_Digits.getD (Int.toNat ((n_Digits.length : Int) - (1 : Int))) (ET.dft .i64)) = (0 : Int)))) then (
  gd (InI64 ((n_Digits.length : Int) - (1 : Int))) <|
  gd (0 ≤ ((n_Digits.length : Int) - (1 : Int)) ∧ ((n_Digits.length : Int) - (1 : Int)) ≤ n_Digits.length) <|
  some (.inl (n_Digits.take (Int.toNat ((n_Digits.length : Int) - (1 : Int))))))
 else (
  some (.inr n_Digits))
def zas_p6 (n_Digits : List Int) : Option ((List Int)) :=
 whileO (fun x : ((List Int)) => zas_p6_step x) n_Digits
def zas_p4 (s : ByteArray) (at_ : Int) (all : ByteArray) (n_Off : Int) : Option (Bool × Int × (List Int)) :=
 bif (!decide (at_ = (s.size : Int))) then (
  some (false, n_Off, []))
 else (
  (zas_p5 all (0 : Int) n_Off []).bind fun o84 =>
  (zas_p6 o84.2).bind fun o85 =>
  some (true, o84.1, o85))
def zas_p1 (s : ByteArray) (at_ : Int) (all : ByteArray) (n_Off : Int) (n_Down : Bool) (n_Plain : Bool) : Option (Bool × Int × Bool × Bool × (List Int) × (List Int)) :=
 gd ((decide (at_ < (s.size : Int))) = true → 0 ≤ at_ ∧ at_ < s.size) <|
 gd ((decide ((bAt s at_) = (101 : Int))) = false → (decide (at_ < (s.size : Int))) = true → 0 ≤ at_ ∧ at_ < s.size) <|
 bif ((decide (at_ < (s.size : Int))) && ((decide ((bAt s at_) = (101 : Int))) || (decide ((bAt s at_) = (69 : Int))))) then (
  gd (InI64 (at_ + (1 : Int))) <|
  gd ((decide ((at_ + (1 : Int)) < (s.size : Int))) = true → 0 ≤ (at_ + (1 : Int)) ∧ (at_ + (1 : Int)) < s.size) <|
  gd ((decide ((bAt s (at_ + (1 : Int))) = (43 : Int))) = false → (decide ((at_ + (1 : Int)) < (s.size : Int))) = true → 0 ≤ (at_ + (1 : Int)) ∧ (at_ + (1 : Int)) < s.size) <|
  bif ((decide ((at_ + (1 : Int)) < (s.size : Int))) && ((decide ((bAt s (at_ + (1 : Int))) = (43 : Int))) || (decide ((bAt s (at_ + (1 : Int))) = (45 : Int))))) then (
   gd (0 ≤ (at_ + (1 : Int)) ∧ (at_ + (1 : Int)) < s.size) <|
   gd (InI64 ((at_ + (1 : Int)) + (1 : Int))) <|
   (zas_p2 s ((at_ + (1 : Int)) + (1 : Int))).bind fun o83 => (Sum.elim (fun (o83_0 : Bool × (List Int) × (List Int)) =>
    some (o83_0.1, n_Off, decide ((bAt s (at_ + (1 : Int))) = (45 : Int)), false, o83_0.2.1, o83_0.2.2)) (fun (o83_1 : Int × (List Int)) =>
    (zas_p4 s o83_1.1 all n_Off).bind fun o86 =>
    some (o86.1, o86.2.1, decide ((bAt s (at_ + (1 : Int))) = (45 : Int)), false, o86.2.2, o83_1.2))) o83)
  else (
   (zas_p2 s (at_ + (1 : Int))).bind fun o87 => (Sum.elim (fun (o87_0 : Bool × (List Int) × (List Int)) =>
    some (o87_0.1, n_Off, n_Down, false, o87_0.2.1, o87_0.2.2)) (fun (o87_1 : Int × (List Int)) =>
    (zas_p4 s o87_1.1 all n_Off).bind fun o88 =>
    some (o88.1, o88.2.1, n_Down, false, o88.2.2, o87_1.2))) o87))
 else (
  (zas_p4 s at_ all n_Off).bind fun o89 =>
  some (o89.1, o89.2.1, n_Down, n_Plain, o89.2.2, []))
def zas_p0 (s : ByteArray) (at_ : Int) (n_Off : Int) (n_Down : Bool) (n_Plain : Bool) (n_Text : ByteArray) : Option (Bool × Int × Bool × Bool × ByteArray × (List Int) × (List Int)) :=
 (zaw_s s at_).bind fun r79 =>
 gd ((decide (r79 = at_)) = false → 0 ≤ at_ ∧ at_ < s.size) <|
 gd ((decide ((bAt s at_) = (48 : Int))) = true → (decide (r79 = at_)) = false → InI64 (at_ + (1 : Int))) <|
 bif ((decide (r79 = at_)) || ((decide ((bAt s at_) = (48 : Int))) && (decide ((at_ + (1 : Int)) < r79)))) then (
  some (false, n_Off, n_Down, n_Plain, n_Text, [], []))
 else (
  gd (0 ≤ at_ ∧ at_ ≤ r79 ∧ r79 ≤ s.size) <|
  gd (0 ≤ at_ ∧ at_ ≤ r79 ∧ r79 ≤ s.size) <|
  gd (InI64 (r79 - at_)) <|
  gd ((decide (r79 < (s.size : Int))) = true → 0 ≤ r79 ∧ r79 < s.size) <|
  bif ((decide (r79 < (s.size : Int))) && (decide ((bAt s r79) = (46 : Int)))) then (
   gd (InI64 (r79 + (1 : Int))) <|
   (zaw_s s (r79 + (1 : Int))).bind fun r80 =>
   gd (InI64 (r79 + (1 : Int))) <|
   bif decide (r80 = (r79 + (1 : Int))) then (
    some (false, (r79 - at_), n_Down, false, (s.extract (Int.toNat at_) (Int.toNat r79)), [], []))
   else (
    gd (InI64 (r79 + (1 : Int))) <|
    gd (0 ≤ (r79 + (1 : Int)) ∧ (r79 + (1 : Int)) ≤ r80 ∧ r80 ≤ s.size) <|
    gd ((s.extract (Int.toNat at_) (Int.toNat r79)).size + (s.extract (Int.toNat (r79 + (1 : Int))) (Int.toNat r80)).size ≤ 9223372036854775807) <|
    (zas_p1 s r80 ((s.extract (Int.toNat at_) (Int.toNat r79)) ++ (s.extract (Int.toNat (r79 + (1 : Int))) (Int.toNat r80))) (r79 - at_) n_Down false).bind fun o90 =>
    some (o90.1, o90.2.1, o90.2.2.1, o90.2.2.2.1, (s.extract (Int.toNat at_) (Int.toNat r79)), o90.2.2.2.2.1, o90.2.2.2.2.2)))
  else (
   (zas_p1 s r79 (s.extract (Int.toNat at_) (Int.toNat r79)) (r79 - at_) n_Down n_Plain).bind fun o91 =>
   some (o91.1, o91.2.1, o91.2.2.1, o91.2.2.2.1, (s.extract (Int.toNat at_) (Int.toNat r79)), o91.2.2.2.2.1, o91.2.2.2.2.2)))
def zas_s (s : ByteArray) : Option (signetref2_Num × Bool) :=
 gd ((decide ((0 : Int) < (s.size : Int))) = true → 0 ≤ (0 : Int) ∧ (0 : Int) < s.size) <|
 bif ((decide ((0 : Int) < (s.size : Int))) && (decide ((bAt s (0 : Int)) = (45 : Int)))) then (
  gd (InI64 ((0 : Int) + (1 : Int))) <|
  (zas_p0 s ((0 : Int) + (1 : Int)) (0 : Int) false true (⟨#[]⟩ : ByteArray)).bind fun o92 =>
  some ((⟨true, o92.2.2.2.2.2.1, o92.2.1, o92.2.2.1, o92.2.2.2.2.2.2, o92.2.2.2.1, o92.2.2.2.2.1⟩ : signetref2_Num), o92.1))
 else (
  (zas_p0 s (0 : Int) (0 : Int) false true (⟨#[]⟩ : ByteArray)).bind fun o93 =>
  some ((⟨false, o93.2.2.2.2.2.1, o93.2.1, o93.2.2.1, o93.2.2.2.2.2.2, o93.2.2.2.1, o93.2.2.2.2.1⟩ : signetref2_Num), o93.1))
def zas_G : Nat → Option CQ := tblQ [(105, zaw_w)]
theorem zas_Gok : ∀ f C, zas_G f = some C → ValidQ Tryd.prog f C := tblQ_valid ⟨zaw_ok, trivial⟩
def zas_d3 := (dQS (dCons (dSl 0 (dVC (dCO dS))) (dCons (dSl 2 (dVC (dCO (dH 0 0)))) (dCons (dSl 4 (dVC (dCO (dH 1 0)))) (dCons (dSl 7 (dVC (dCO dS))) (dCons (dSl 9 (dVC (dCO (dI .i64)))) (dCons (dSl 10 (dVC (dCO (dI .i64)))) dNil)))))) (dCons (dCells 132 (dCons dB (dCons dNS (dCons (dI .i64) (dCons dB (dCons dNS (dCons dB (dCons dS dNil)))))))) (dCons (dCells 132 (dCons dB (dCons dNS (dCons (dI .i64) (dCons dB (dCons (dO 2) (dCons dB (dCons dS dNil)))))))) (dCons (dRow .i64 3) dNil))))
def zas_l3 : SubQ := fun S R kn kx kr => (Dec.d zas_d3 S).bind fun x => (zas_p3 x.1.1 x.1.2.2.2.2.1 x.1.2.2.2.2.2.1 x.2.2.2.1).bind fun r => kx 0 ⟨[(0, [], .c (.o (.val (.string x.1.1)))), (2, [], .c (.o (.hd 0 0))), (4, [], .c (.o (.hd 1 0))), (7, [], .c (.o (.val (.string x.1.2.2.2.1)))), (9, [], .c (.o (.val (.int .i64 x.1.2.2.2.2.1))))], [], [.cells 132 [.val (.bool x.2.1.1), .val (.slice none 0 0), .val (.int .i64 x.2.1.2.2.1), .val (.bool x.2.1.2.2.2.1), .val (.slice none 0 0), .val (.bool x.2.1.2.2.2.2.2.1), .val (.string x.2.1.2.2.2.2.2.2.1)], .cells 132 [.val (.bool x.2.2.1.1), .val (.slice none 0 0), .val (.int .i64 x.2.2.1.2.2.1), .val (.bool x.2.2.1.2.2.2.1), .own 2, .val (.bool x.2.2.1.2.2.2.2.2.1), .val (.string x.2.2.1.2.2.2.2.2.2.1)], .row .i64 3 r]⟩
def zas_d2 := (dQS (dCons (dSl 0 (dVC (dCO dS))) (dCons (dSl 2 (dVC (dCO (dH 0 0)))) (dCons (dSl 4 (dVC (dCO (dH 1 0)))) (dCons (dSl 5 (dVC (dCO (dI .i64)))) (dCons (dSl 7 (dVC (dCO dS))) dNil))))) (dCons (dCells 132 (dCons dB (dCons dNS (dCons (dI .i64) (dCons dB (dCons dNS (dCons dB (dCons dS dNil)))))))) (dCons (dCells 132 (dCons dB (dCons dNS (dCons (dI .i64) (dCons dB (dCons dNS (dCons dB (dCons dS dNil)))))))) dNil)))
def zas_l2 : SubQ := fun S R kn kx kr => (Dec.d zas_d2 S).bind fun x => (zas_p2 x.1.1 x.1.2.2.2.1).bind fun r => (Sum.elim (fun (r_0 : Bool × (List Int) × (List Int)) => kr ⟨[(2, [], .c (.o (.hd 0 0))), (3, [], .c (.o (.val (.bool r_0.1))))], [], [.cells 132 [.val (.bool x.2.2.1.1), .own 1, .val (.int .i64 x.2.2.1.2.2.1), .val (.bool x.2.2.1.2.2.2.1), .own 2, .val (.bool x.2.2.1.2.2.2.2.2.1), .val (.string x.2.2.1.2.2.2.2.2.2.1)], .row .i64 3 r_0.2.1, .row .i64 3 r_0.2.2]⟩) (fun (r_1 : Int × (List Int)) => kn ⟨[(0, [], .c (.o (.val (.string x.1.1)))), (2, [], .c (.o (.hd 0 0))), (4, [], .c (.o (.hd 1 0))), (5, [], .c (.o (.val (.int .i64 r_1.1)))), (7, [], .c (.o (.val (.string x.1.2.2.2.2.1))))], [], [.cells 132 [.val (.bool x.2.1.1), .val (.slice none 0 0), .val (.int .i64 x.2.1.2.2.1), .val (.bool x.2.1.2.2.2.1), .val (.slice none 0 0), .val (.bool x.2.1.2.2.2.2.2.1), .val (.string x.2.1.2.2.2.2.2.2.1)], .cells 132 [.val (.bool x.2.2.1.1), .val (.slice none 0 0), .val (.int .i64 x.2.2.1.2.2.1), .val (.bool x.2.2.1.2.2.2.1), .own 2, .val (.bool x.2.2.1.2.2.2.2.2.1), .val (.string x.2.2.1.2.2.2.2.2.2.1)], .row .i64 3 r_1.2]⟩)) r
def zas_d5 := (dQS (dCons (dSl 2 (dVC (dCO (dH 0 0)))) (dCons (dSl 4 (dVC (dCO (dH 1 0)))) (dCons (dSl 7 (dVC (dCO dS))) (dCons (dSl 11 (dVC (dCO (dI .i64)))) dNil)))) (dCons (dCells 132 (dCons dB (dCons dNS (dCons (dI .i64) (dCons dB (dCons dNS (dCons dB (dCons dS dNil)))))))) (dCons (dCells 132 (dCons dB (dCons (dO 2) (dCons (dI .i64) (dCons dB (dCons (dO 3) (dCons dB (dCons dS dNil)))))))) (dCons (dRow .i64 3) (dCons (dRow .i64 3) dNil)))))
def zas_l5 : SubQ := fun S R kn kx kr => (Dec.d zas_d5 S).bind fun x => (zas_p5 x.1.2.2.1 x.1.2.2.2.1 x.2.2.1.2.2.1 x.2.2.2.1).bind fun r => kx 2 ⟨[(2, [], .c (.o (.hd 0 0))), (4, [], .c (.o (.hd 1 0)))], [], [.cells 132 [.val (.bool x.2.1.1), .val (.slice none 0 0), .val (.int .i64 x.2.1.2.2.1), .val (.bool x.2.1.2.2.2.1), .val (.slice none 0 0), .val (.bool x.2.1.2.2.2.2.2.1), .val (.string x.2.1.2.2.2.2.2.2.1)], .cells 132 [.val (.bool x.2.2.1.1), .own 2, .val (.int .i64 r.1), .val (.bool x.2.2.1.2.2.2.1), .own 3, .val (.bool x.2.2.1.2.2.2.2.2.1), .val (.string x.2.2.1.2.2.2.2.2.2.1)], .row .i64 3 r.2, .row .i64 3 x.2.2.2.2.1]⟩
def zas_d6 := (dQS (dCons (dSl 2 (dVC (dCO (dH 0 0)))) (dCons (dSl 4 (dVC (dCO (dH 1 0)))) dNil)) (dCons (dCells 132 (dCons dB (dCons dNS (dCons (dI .i64) (dCons dB (dCons dNS (dCons dB (dCons dS dNil)))))))) (dCons (dCells 132 (dCons dB (dCons (dO 2) (dCons (dI .i64) (dCons dB (dCons (dO 3) (dCons dB (dCons dS dNil)))))))) (dCons (dRow .i64 3) (dCons (dRow .i64 3) dNil)))))
def zas_l6 : SubQ := fun S R kn kx kr => (Dec.d zas_d6 S).bind fun x => (zas_p6 x.2.2.2.1).bind fun r => kx 4 ⟨[(2, [], .c (.o (.hd 0 0))), (4, [], .c (.o (.hd 1 0)))], [], [.cells 132 [.val (.bool x.2.1.1), .val (.slice none 0 0), .val (.int .i64 x.2.1.2.2.1), .val (.bool x.2.1.2.2.2.1), .val (.slice none 0 0), .val (.bool x.2.1.2.2.2.2.2.1), .val (.string x.2.1.2.2.2.2.2.2.1)], .cells 132 [.val (.bool x.2.2.1.1), .own 2, .val (.int .i64 x.2.2.1.2.2.1), .val (.bool x.2.2.1.2.2.2.1), .own 3, .val (.bool x.2.2.1.2.2.2.2.2.1), .val (.string x.2.2.1.2.2.2.2.2.2.1)], .row .i64 3 r, .row .i64 3 x.2.2.2.2.1]⟩
def zas_d4 := (dQS (dCons (dSl 0 (dVC (dCO dS))) (dCons (dSl 2 (dVC (dCO (dH 0 0)))) (dCons (dSl 4 (dVC (dCO (dH 1 0)))) (dCons (dSl 5 (dVC (dCO (dI .i64)))) (dCons (dSl 7 (dVC (dCO dS))) dNil))))) (dCons (dCells 132 (dCons dB (dCons dNS (dCons (dI .i64) (dCons dB (dCons dNS (dCons dB (dCons dS dNil)))))))) (dCons (dCells 132 (dCons dB (dCons dNS (dCons (dI .i64) (dCons dB (dCons (dO 2) (dCons dB (dCons dS dNil)))))))) (dCons (dRow .i64 3) dNil))))
def zas_l4 : SubQ := fun S R kn kx kr => (Dec.d zas_d4 S).bind fun x => (zas_p4 x.1.1 x.1.2.2.2.1 x.1.2.2.2.2.1 x.2.2.1.2.2.1).bind fun r => kr ⟨[(2, [], .c (.o (.hd 0 0))), (3, [], .c (.o (.val (.bool r.1))))], [], [.cells 132 [.val (.bool x.2.2.1.1), .own 1, .val (.int .i64 r.2.1), .val (.bool x.2.2.1.2.2.2.1), .own 2, .val (.bool x.2.2.1.2.2.2.2.2.1), .val (.string x.2.2.1.2.2.2.2.2.2.1)], .row .i64 3 r.2.2, .row .i64 3 x.2.2.2.1]⟩
def zas_d1 := (dQS (dCons (dSl 0 (dVC (dCO dS))) (dCons (dSl 2 (dVC (dCO (dH 0 0)))) (dCons (dSl 4 (dVC (dCO (dH 1 0)))) (dCons (dSl 5 (dVC (dCO (dI .i64)))) (dCons (dSl 7 (dVC (dCO dS))) dNil))))) (dCons (dCells 132 (dCons dB (dCons dNS (dCons (dI .i64) (dCons dB (dCons dNS (dCons dB (dCons dS dNil)))))))) (dCons (dCells 132 (dCons dB (dCons dNS (dCons (dI .i64) (dCons dB (dCons dNS (dCons dB (dCons dS dNil)))))))) dNil)))
def zas_l1 : SubQ := fun S R kn kx kr => (Dec.d zas_d1 S).bind fun x => (zas_p1 x.1.1 x.1.2.2.2.1 x.1.2.2.2.2.1 x.2.2.1.2.2.1 x.2.2.1.2.2.2.1 x.2.2.1.2.2.2.2.2.1).bind fun r => kr ⟨[(2, [], .c (.o (.hd 0 0))), (3, [], .c (.o (.val (.bool r.1))))], [], [.cells 132 [.val (.bool x.2.2.1.1), .own 1, .val (.int .i64 r.2.1), .val (.bool r.2.2.1), .own 2, .val (.bool r.2.2.2.1), .val (.string x.2.2.1.2.2.2.2.2.2.1)], .row .i64 3 r.2.2.2.2.1, .row .i64 3 r.2.2.2.2.2]⟩
def zas_d0 := (dQS (dCons (dSl 0 (dVC (dCO dS))) (dCons (dSl 2 (dVC (dCO (dH 0 0)))) (dCons (dSl 4 (dVC (dCO (dH 1 0)))) (dCons (dSl 5 (dVC (dCO (dI .i64)))) dNil)))) (dCons (dCells 132 (dCons dB (dCons dNS (dCons (dI .i64) (dCons dB (dCons dNS (dCons dB (dCons dS dNil)))))))) (dCons (dCells 132 (dCons dB (dCons dNS (dCons (dI .i64) (dCons dB (dCons dNS (dCons dB (dCons dS dNil)))))))) dNil)))
def zas_l0 : SubQ := fun S R kn kx kr => (Dec.d zas_d0 S).bind fun x => (zas_p0 x.1.1 x.1.2.2.2.1 x.2.2.1.2.2.1 x.2.2.1.2.2.2.1 x.2.2.1.2.2.2.2.2.1 x.2.2.1.2.2.2.2.2.2.1).bind fun r => kr ⟨[(2, [], .c (.o (.hd 0 0))), (3, [], .c (.o (.val (.bool r.1))))], [], [.cells 132 [.val (.bool x.2.2.1.1), .own 1, .val (.int .i64 r.2.1), .val (.bool r.2.2.1), .own 2, .val (.bool r.2.2.2.1), .val (.string r.2.2.2.2.1)], .row .i64 3 r.2.2.2.2.2.1, .row .i64 3 r.2.2.2.2.2.2]⟩
def zas_L : Nat → SubQ := tblL [(3, zas_l3), (2, zas_l2), (5, zas_l5), (6, zas_l6), (4, zas_l4), (1, zas_l1), (0, zas_l0)]
theorem zas_p3_eq (s : ByteArray) (all : ByteArray) (k_ : Int) (i : Int) (res_Minus : Bool) (res_Off : Int) (res_Down : Bool) (res_Plain : Bool) (res_Text : ByteArray) (n_Minus : Bool) (n_Off : Int) (n_Down : Bool) (n_Plain : Bool) (n_Text : ByteArray) (n_Exp : List Int) (R : Type) (kn : QS → Option R) (kx : Nat → QS → Option R) (kr : QS → Option R) :
  interpQ zas_L zas_G 0 13 222 zas_b3 ⟨[(0, [], .c (.o (.val (.string s)))), (2, [], .c (.o (.hd 0 0))), (4, [], .c (.o (.hd 1 0))), (7, [], .c (.o (.val (.string all)))), (9, [], .c (.o (.val (.int .i64 k_)))), (10, [], .c (.o (.val (.int .i64 i))))], [], [.cells 132 [.val (.bool res_Minus), .val (.slice none 0 0), .val (.int .i64 res_Off), .val (.bool res_Down), .val (.slice none 0 0), .val (.bool res_Plain), .val (.string res_Text)], .cells 132 [.val (.bool n_Minus), .val (.slice none 0 0), .val (.int .i64 n_Off), .val (.bool n_Down), .own 2, .val (.bool n_Plain), .val (.string n_Text)], .row .i64 3 n_Exp]⟩ kn kx kr = (zas_p3 s k_ i n_Exp).bind fun r => kx 0 ⟨[(0, [], .c (.o (.val (.string s)))), (2, [], .c (.o (.hd 0 0))), (4, [], .c (.o (.hd 1 0))), (7, [], .c (.o (.val (.string all)))), (9, [], .c (.o (.val (.int .i64 k_))))], [], [.cells 132 [.val (.bool res_Minus), .val (.slice none 0 0), .val (.int .i64 res_Off), .val (.bool res_Down), .val (.slice none 0 0), .val (.bool res_Plain), .val (.string res_Text)], .cells 132 [.val (.bool n_Minus), .val (.slice none 0 0), .val (.int .i64 n_Off), .val (.bool n_Down), .own 2, .val (.bool n_Plain), .val (.string n_Text)], .row .i64 3 r]⟩ := by
 refine loop_piece (step := fun x => zas_p3_step s k_ x.1 x.2) (enc := fun x => ⟨[(0, [], .c (.o (.val (.string s)))), (2, [], .c (.o (.hd 0 0))), (4, [], .c (.o (.hd 1 0))), (7, [], .c (.o (.val (.string all)))), (9, [], .c (.o (.val (.int .i64 k_)))), (10, [], .c (.o (.val (.int .i64 x.1))))], [], [.cells 132 [.val (.bool res_Minus), .val (.slice none 0 0), .val (.int .i64 res_Off), .val (.bool res_Down), .val (.slice none 0 0), .val (.bool res_Plain), .val (.string res_Text)], .cells 132 [.val (.bool n_Minus), .val (.slice none 0 0), .val (.int .i64 n_Off), .val (.bool n_Down), .own 2, .val (.bool n_Plain), .val (.string n_Text)], .row .i64 3 x.2]⟩) (ko := fun r => kx 0 ⟨[(0, [], .c (.o (.val (.string s)))), (2, [], .c (.o (.hd 0 0))), (4, [], .c (.o (.hd 1 0))), (7, [], .c (.o (.val (.string all)))), (9, [], .c (.o (.val (.int .i64 k_))))], [], [.cells 132 [.val (.bool res_Minus), .val (.slice none 0 0), .val (.int .i64 res_Off), .val (.bool res_Down), .val (.slice none 0 0), .val (.bool res_Plain), .val (.string res_Text)], .cells 132 [.val (.bool n_Minus), .val (.slice none 0 0), .val (.int .i64 n_Off), .val (.bool n_Down), .own 2, .val (.bool n_Plain), .val (.string n_Text)], .row .i64 3 r]⟩) ?_ ?_ (i, n_Exp)
 ·intro x; kernel_rfl
 ·intro x ki; simp only [zas_p3_step, -eq_self, bind_cond, bind_gd, Option.bind_assoc, obS, Sum.elim_inl, Sum.elim_inr, bind_elim]; kernel_rfl
theorem zas_sub3 : SubOK zas_L zas_G 0 13 222 3 zas_b3 := sub_ok' zas_d3 (fun x R kn kx kr => (zas_p3 x.1.1 x.1.2.2.2.2.1 x.1.2.2.2.2.2.1 x.2.2.2.1).bind fun r => kx 0 ⟨[(0, [], .c (.o (.val (.string x.1.1)))), (2, [], .c (.o (.hd 0 0))), (4, [], .c (.o (.hd 1 0))), (7, [], .c (.o (.val (.string x.1.2.2.2.1)))), (9, [], .c (.o (.val (.int .i64 x.1.2.2.2.2.1))))], [], [.cells 132 [.val (.bool x.2.1.1), .val (.slice none 0 0), .val (.int .i64 x.2.1.2.2.1), .val (.bool x.2.1.2.2.2.1), .val (.slice none 0 0), .val (.bool x.2.1.2.2.2.2.2.1), .val (.string x.2.1.2.2.2.2.2.2.1)], .cells 132 [.val (.bool x.2.2.1.1), .val (.slice none 0 0), .val (.int .i64 x.2.2.1.2.2.1), .val (.bool x.2.2.1.2.2.2.1), .own 2, .val (.bool x.2.2.1.2.2.2.2.2.1), .val (.string x.2.2.1.2.2.2.2.2.2.1)], .row .i64 3 r]⟩) (by kernel_rfl) fun x R kn kx kr => zas_p3_eq x.1.1 x.1.2.2.2.1 x.1.2.2.2.2.1 x.1.2.2.2.2.2.1 x.2.1.1 x.2.1.2.2.1 x.2.1.2.2.2.1 x.2.1.2.2.2.2.2.1 x.2.1.2.2.2.2.2.2.1 x.2.2.1.1 x.2.2.1.2.2.1 x.2.2.1.2.2.2.1 x.2.2.1.2.2.2.2.2.1 x.2.2.1.2.2.2.2.2.2.1 x.2.2.2.1 R kn kx kr
theorem zas_p2_eq (s : ByteArray) (at_ : Int) (all : ByteArray) (res_Minus : Bool) (res_Off : Int) (res_Down : Bool) (res_Plain : Bool) (res_Text : ByteArray) (n_Minus : Bool) (n_Off : Int) (n_Down : Bool) (n_Plain : Bool) (n_Text : ByteArray) (R : Type) (kn : QS → Option R) (kx : Nat → QS → Option R) (kr : QS → Option R) :
  interpQ zas_L zas_G 0 13 222 zas_b2 ⟨[(0, [], .c (.o (.val (.string s)))), (2, [], .c (.o (.hd 0 0))), (4, [], .c (.o (.hd 1 0))), (5, [], .c (.o (.val (.int .i64 at_)))), (7, [], .c (.o (.val (.string all))))], [], [.cells 132 [.val (.bool res_Minus), .val (.slice none 0 0), .val (.int .i64 res_Off), .val (.bool res_Down), .val (.slice none 0 0), .val (.bool res_Plain), .val (.string res_Text)], .cells 132 [.val (.bool n_Minus), .val (.slice none 0 0), .val (.int .i64 n_Off), .val (.bool n_Down), .val (.slice none 0 0), .val (.bool n_Plain), .val (.string n_Text)]]⟩ kn kx kr = (zas_p2 s at_).bind fun r => (Sum.elim (fun (r_0 : Bool × (List Int) × (List Int)) => kr ⟨[(2, [], .c (.o (.hd 0 0))), (3, [], .c (.o (.val (.bool r_0.1))))], [], [.cells 132 [.val (.bool n_Minus), .own 1, .val (.int .i64 n_Off), .val (.bool n_Down), .own 2, .val (.bool n_Plain), .val (.string n_Text)], .row .i64 3 r_0.2.1, .row .i64 3 r_0.2.2]⟩) (fun (r_1 : Int × (List Int)) => kn ⟨[(0, [], .c (.o (.val (.string s)))), (2, [], .c (.o (.hd 0 0))), (4, [], .c (.o (.hd 1 0))), (5, [], .c (.o (.val (.int .i64 r_1.1)))), (7, [], .c (.o (.val (.string all))))], [], [.cells 132 [.val (.bool res_Minus), .val (.slice none 0 0), .val (.int .i64 res_Off), .val (.bool res_Down), .val (.slice none 0 0), .val (.bool res_Plain), .val (.string res_Text)], .cells 132 [.val (.bool n_Minus), .val (.slice none 0 0), .val (.int .i64 n_Off), .val (.bool n_Down), .own 2, .val (.bool n_Plain), .val (.string n_Text)], .row .i64 3 r_1.2]⟩)) r := by
 simp only [zas_p2, -eq_self, bind_cond, bind_gd, Option.bind_assoc, obS, Sum.elim_inl, Sum.elim_inr, bind_elim]
 kernel_rfl
theorem zas_sub2 : SubOK zas_L zas_G 0 13 222 2 zas_b2 := sub_ok' zas_d2 (fun x R kn kx kr => (zas_p2 x.1.1 x.1.2.2.2.1).bind fun r => (Sum.elim (fun (r_0 : Bool × (List Int) × (List Int)) => kr ⟨[(2, [], .c (.o (.hd 0 0))), (3, [], .c (.o (.val (.bool r_0.1))))], [], [.cells 132 [.val (.bool x.2.2.1.1), .own 1, .val (.int .i64 x.2.2.1.2.2.1), .val (.bool x.2.2.1.2.2.2.1), .own 2, .val (.bool x.2.2.1.2.2.2.2.2.1), .val (.string x.2.2.1.2.2.2.2.2.2.1)], .row .i64 3 r_0.2.1, .row .i64 3 r_0.2.2]⟩) (fun (r_1 : Int × (List Int)) => kn ⟨[(0, [], .c (.o (.val (.string x.1.1)))), (2, [], .c (.o (.hd 0 0))), (4, [], .c (.o (.hd 1 0))), (5, [], .c (.o (.val (.int .i64 r_1.1)))), (7, [], .c (.o (.val (.string x.1.2.2.2.2.1))))], [], [.cells 132 [.val (.bool x.2.1.1), .val (.slice none 0 0), .val (.int .i64 x.2.1.2.2.1), .val (.bool x.2.1.2.2.2.1), .val (.slice none 0 0), .val (.bool x.2.1.2.2.2.2.2.1), .val (.string x.2.1.2.2.2.2.2.2.1)], .cells 132 [.val (.bool x.2.2.1.1), .val (.slice none 0 0), .val (.int .i64 x.2.2.1.2.2.1), .val (.bool x.2.2.1.2.2.2.1), .own 2, .val (.bool x.2.2.1.2.2.2.2.2.1), .val (.string x.2.2.1.2.2.2.2.2.2.1)], .row .i64 3 r_1.2]⟩)) r) (by kernel_rfl) fun x R kn kx kr => zas_p2_eq x.1.1 x.1.2.2.2.1 x.1.2.2.2.2.1 x.2.1.1 x.2.1.2.2.1 x.2.1.2.2.2.1 x.2.1.2.2.2.2.2.1 x.2.1.2.2.2.2.2.2.1 x.2.2.1.1 x.2.2.1.2.2.1 x.2.2.1.2.2.2.1 x.2.2.1.2.2.2.2.2.1 x.2.2.1.2.2.2.2.2.2.1 R kn kx kr
theorem zas_p5_eq (all : ByteArray) (i : Int) (res_Minus : Bool) (res_Off : Int) (res_Down : Bool) (res_Plain : Bool) (res_Text : ByteArray) (n_Minus : Bool) (n_Off : Int) (n_Down : Bool) (n_Plain : Bool) (n_Text : ByteArray) (n_Digits : List Int) (n_Exp : List Int) (R : Type) (kn : QS → Option R) (kx : Nat → QS → Option R) (kr : QS → Option R) :
  interpQ zas_L zas_G 0 13 222 zas_b5 ⟨[(2, [], .c (.o (.hd 0 0))), (4, [], .c (.o (.hd 1 0))), (7, [], .c (.o (.val (.string all)))), (11, [], .c (.o (.val (.int .i64 i))))], [], [.cells 132 [.val (.bool res_Minus), .val (.slice none 0 0), .val (.int .i64 res_Off), .val (.bool res_Down), .val (.slice none 0 0), .val (.bool res_Plain), .val (.string res_Text)], .cells 132 [.val (.bool n_Minus), .own 2, .val (.int .i64 n_Off), .val (.bool n_Down), .own 3, .val (.bool n_Plain), .val (.string n_Text)], .row .i64 3 n_Digits, .row .i64 3 n_Exp]⟩ kn kx kr = (zas_p5 all i n_Off n_Digits).bind fun r => kx 2 ⟨[(2, [], .c (.o (.hd 0 0))), (4, [], .c (.o (.hd 1 0)))], [], [.cells 132 [.val (.bool res_Minus), .val (.slice none 0 0), .val (.int .i64 res_Off), .val (.bool res_Down), .val (.slice none 0 0), .val (.bool res_Plain), .val (.string res_Text)], .cells 132 [.val (.bool n_Minus), .own 2, .val (.int .i64 r.1), .val (.bool n_Down), .own 3, .val (.bool n_Plain), .val (.string n_Text)], .row .i64 3 r.2, .row .i64 3 n_Exp]⟩ := by
 refine loop_piece (step := fun x => zas_p5_step all x.1 x.2.1 x.2.2) (enc := fun x => ⟨[(2, [], .c (.o (.hd 0 0))), (4, [], .c (.o (.hd 1 0))), (7, [], .c (.o (.val (.string all)))), (11, [], .c (.o (.val (.int .i64 x.1))))], [], [.cells 132 [.val (.bool res_Minus), .val (.slice none 0 0), .val (.int .i64 res_Off), .val (.bool res_Down), .val (.slice none 0 0), .val (.bool res_Plain), .val (.string res_Text)], .cells 132 [.val (.bool n_Minus), .own 2, .val (.int .i64 x.2.1), .val (.bool n_Down), .own 3, .val (.bool n_Plain), .val (.string n_Text)], .row .i64 3 x.2.2, .row .i64 3 n_Exp]⟩) (ko := fun r => kx 2 ⟨[(2, [], .c (.o (.hd 0 0))), (4, [], .c (.o (.hd 1 0)))], [], [.cells 132 [.val (.bool res_Minus), .val (.slice none 0 0), .val (.int .i64 res_Off), .val (.bool res_Down), .val (.slice none 0 0), .val (.bool res_Plain), .val (.string res_Text)], .cells 132 [.val (.bool n_Minus), .own 2, .val (.int .i64 r.1), .val (.bool n_Down), .own 3, .val (.bool n_Plain), .val (.string n_Text)], .row .i64 3 r.2, .row .i64 3 n_Exp]⟩) ?_ ?_ (i, n_Off, n_Digits)
 ·intro x; kernel_rfl
 ·intro x ki; simp only [zas_p5_step, -eq_self, bind_cond, bind_gd, Option.bind_assoc, obS, Sum.elim_inl, Sum.elim_inr, bind_elim]; kernel_rfl
theorem zas_sub5 : SubOK zas_L zas_G 0 13 222 5 zas_b5 := sub_ok' zas_d5 (fun x R kn kx kr => (zas_p5 x.1.2.2.1 x.1.2.2.2.1 x.2.2.1.2.2.1 x.2.2.2.1).bind fun r => kx 2 ⟨[(2, [], .c (.o (.hd 0 0))), (4, [], .c (.o (.hd 1 0)))], [], [.cells 132 [.val (.bool x.2.1.1), .val (.slice none 0 0), .val (.int .i64 x.2.1.2.2.1), .val (.bool x.2.1.2.2.2.1), .val (.slice none 0 0), .val (.bool x.2.1.2.2.2.2.2.1), .val (.string x.2.1.2.2.2.2.2.2.1)], .cells 132 [.val (.bool x.2.2.1.1), .own 2, .val (.int .i64 r.1), .val (.bool x.2.2.1.2.2.2.1), .own 3, .val (.bool x.2.2.1.2.2.2.2.2.1), .val (.string x.2.2.1.2.2.2.2.2.2.1)], .row .i64 3 r.2, .row .i64 3 x.2.2.2.2.1]⟩) (by kernel_rfl) fun x R kn kx kr => zas_p5_eq x.1.2.2.1 x.1.2.2.2.1 x.2.1.1 x.2.1.2.2.1 x.2.1.2.2.2.1 x.2.1.2.2.2.2.2.1 x.2.1.2.2.2.2.2.2.1 x.2.2.1.1 x.2.2.1.2.2.1 x.2.2.1.2.2.2.1 x.2.2.1.2.2.2.2.2.1 x.2.2.1.2.2.2.2.2.2.1 x.2.2.2.1 x.2.2.2.2.1 R kn kx kr
theorem zas_p6_eq (res_Minus : Bool) (res_Off : Int) (res_Down : Bool) (res_Plain : Bool) (res_Text : ByteArray) (n_Minus : Bool) (n_Off : Int) (n_Down : Bool) (n_Plain : Bool) (n_Text : ByteArray) (n_Digits : List Int) (n_Exp : List Int) (R : Type) (kn : QS → Option R) (kx : Nat → QS → Option R) (kr : QS → Option R) :
  interpQ zas_L zas_G 0 13 222 zas_b6 ⟨[(2, [], .c (.o (.hd 0 0))), (4, [], .c (.o (.hd 1 0)))], [], [.cells 132 [.val (.bool res_Minus), .val (.slice none 0 0), .val (.int .i64 res_Off), .val (.bool res_Down), .val (.slice none 0 0), .val (.bool res_Plain), .val (.string res_Text)], .cells 132 [.val (.bool n_Minus), .own 2, .val (.int .i64 n_Off), .val (.bool n_Down), .own 3, .val (.bool n_Plain), .val (.string n_Text)], .row .i64 3 n_Digits, .row .i64 3 n_Exp]⟩ kn kx kr = (zas_p6 n_Digits).bind fun r => kx 4 ⟨[(2, [], .c (.o (.hd 0 0))), (4, [], .c (.o (.hd 1 0)))], [], [.cells 132 [.val (.bool res_Minus), .val (.slice none 0 0), .val (.int .i64 res_Off), .val (.bool res_Down), .val (.slice none 0 0), .val (.bool res_Plain), .val (.string res_Text)], .cells 132 [.val (.bool n_Minus), .own 2, .val (.int .i64 n_Off), .val (.bool n_Down), .own 3, .val (.bool n_Plain), .val (.string n_Text)], .row .i64 3 r, .row .i64 3 n_Exp]⟩ := by
 refine loop_piece (step := fun x => zas_p6_step x) (enc := fun x => ⟨[(2, [], .c (.o (.hd 0 0))), (4, [], .c (.o (.hd 1 0)))], [], [.cells 132 [.val (.bool res_Minus), .val (.slice none 0 0), .val (.int .i64 res_Off), .val (.bool res_Down), .val (.slice none 0 0), .val (.bool res_Plain), .val (.string res_Text)], .cells 132 [.val (.bool n_Minus), .own 2, .val (.int .i64 n_Off), .val (.bool n_Down), .own 3, .val (.bool n_Plain), .val (.string n_Text)], .row .i64 3 x, .row .i64 3 n_Exp]⟩) (ko := fun r => kx 4 ⟨[(2, [], .c (.o (.hd 0 0))), (4, [], .c (.o (.hd 1 0)))], [], [.cells 132 [.val (.bool res_Minus), .val (.slice none 0 0), .val (.int .i64 res_Off), .val (.bool res_Down), .val (.slice none 0 0), .val (.bool res_Plain), .val (.string res_Text)], .cells 132 [.val (.bool n_Minus), .own 2, .val (.int .i64 n_Off), .val (.bool n_Down), .own 3, .val (.bool n_Plain), .val (.string n_Text)], .row .i64 3 r, .row .i64 3 n_Exp]⟩) ?_ ?_ n_Digits
 ·intro x; kernel_rfl
 ·intro x ki; simp only [zas_p6_step, -eq_self, bind_cond, bind_gd, Option.bind_assoc, obS, Sum.elim_inl, Sum.elim_inr, bind_elim]; kernel_rfl
theorem zas_sub6 : SubOK zas_L zas_G 0 13 222 6 zas_b6 := sub_ok' zas_d6 (fun x R kn kx kr => (zas_p6 x.2.2.2.1).bind fun r => kx 4 ⟨[(2, [], .c (.o (.hd 0 0))), (4, [], .c (.o (.hd 1 0)))], [], [.cells 132 [.val (.bool x.2.1.1), .val (.slice none 0 0), .val (.int .i64 x.2.1.2.2.1), .val (.bool x.2.1.2.2.2.1), .val (.slice none 0 0), .val (.bool x.2.1.2.2.2.2.2.1), .val (.string x.2.1.2.2.2.2.2.2.1)], .cells 132 [.val (.bool x.2.2.1.1), .own 2, .val (.int .i64 x.2.2.1.2.2.1), .val (.bool x.2.2.1.2.2.2.1), .own 3, .val (.bool x.2.2.1.2.2.2.2.2.1), .val (.string x.2.2.1.2.2.2.2.2.2.1)], .row .i64 3 r, .row .i64 3 x.2.2.2.2.1]⟩) (by kernel_rfl) fun x R kn kx kr => zas_p6_eq x.2.1.1 x.2.1.2.2.1 x.2.1.2.2.2.1 x.2.1.2.2.2.2.2.1 x.2.1.2.2.2.2.2.2.1 x.2.2.1.1 x.2.2.1.2.2.1 x.2.2.1.2.2.2.1 x.2.2.1.2.2.2.2.2.1 x.2.2.1.2.2.2.2.2.2.1 x.2.2.2.1 x.2.2.2.2.1 R kn kx kr
theorem zas_p4_eq (s : ByteArray) (at_ : Int) (all : ByteArray) (res_Minus : Bool) (res_Off : Int) (res_Down : Bool) (res_Plain : Bool) (res_Text : ByteArray) (n_Minus : Bool) (n_Off : Int) (n_Down : Bool) (n_Plain : Bool) (n_Text : ByteArray) (n_Exp : List Int) (R : Type) (kn : QS → Option R) (kx : Nat → QS → Option R) (kr : QS → Option R) :
  interpQ zas_L zas_G 0 13 222 zas_b4 ⟨[(0, [], .c (.o (.val (.string s)))), (2, [], .c (.o (.hd 0 0))), (4, [], .c (.o (.hd 1 0))), (5, [], .c (.o (.val (.int .i64 at_)))), (7, [], .c (.o (.val (.string all))))], [], [.cells 132 [.val (.bool res_Minus), .val (.slice none 0 0), .val (.int .i64 res_Off), .val (.bool res_Down), .val (.slice none 0 0), .val (.bool res_Plain), .val (.string res_Text)], .cells 132 [.val (.bool n_Minus), .val (.slice none 0 0), .val (.int .i64 n_Off), .val (.bool n_Down), .own 2, .val (.bool n_Plain), .val (.string n_Text)], .row .i64 3 n_Exp]⟩ kn kx kr = (zas_p4 s at_ all n_Off).bind fun r => kr ⟨[(2, [], .c (.o (.hd 0 0))), (3, [], .c (.o (.val (.bool r.1))))], [], [.cells 132 [.val (.bool n_Minus), .own 1, .val (.int .i64 r.2.1), .val (.bool n_Down), .own 2, .val (.bool n_Plain), .val (.string n_Text)], .row .i64 3 r.2.2, .row .i64 3 n_Exp]⟩ := by
 simp only [zas_p4, -eq_self, bind_cond, bind_gd, Option.bind_assoc, obS, Sum.elim_inl, Sum.elim_inr, bind_elim]
 kernel_rfl
theorem zas_sub4 : SubOK zas_L zas_G 0 13 222 4 zas_b4 := sub_ok' zas_d4 (fun x R kn kx kr => (zas_p4 x.1.1 x.1.2.2.2.1 x.1.2.2.2.2.1 x.2.2.1.2.2.1).bind fun r => kr ⟨[(2, [], .c (.o (.hd 0 0))), (3, [], .c (.o (.val (.bool r.1))))], [], [.cells 132 [.val (.bool x.2.2.1.1), .own 1, .val (.int .i64 r.2.1), .val (.bool x.2.2.1.2.2.2.1), .own 2, .val (.bool x.2.2.1.2.2.2.2.2.1), .val (.string x.2.2.1.2.2.2.2.2.2.1)], .row .i64 3 r.2.2, .row .i64 3 x.2.2.2.1]⟩) (by kernel_rfl) fun x R kn kx kr => zas_p4_eq x.1.1 x.1.2.2.2.1 x.1.2.2.2.2.1 x.2.1.1 x.2.1.2.2.1 x.2.1.2.2.2.1 x.2.1.2.2.2.2.2.1 x.2.1.2.2.2.2.2.2.1 x.2.2.1.1 x.2.2.1.2.2.1 x.2.2.1.2.2.2.1 x.2.2.1.2.2.2.2.2.1 x.2.2.1.2.2.2.2.2.2.1 x.2.2.2.1 R kn kx kr
theorem zas_p1_eq (s : ByteArray) (at_ : Int) (all : ByteArray) (res_Minus : Bool) (res_Off : Int) (res_Down : Bool) (res_Plain : Bool) (res_Text : ByteArray) (n_Minus : Bool) (n_Off : Int) (n_Down : Bool) (n_Plain : Bool) (n_Text : ByteArray) (R : Type) (kn : QS → Option R) (kx : Nat → QS → Option R) (kr : QS → Option R) :
  interpQ zas_L zas_G 0 13 222 zas_b1 ⟨[(0, [], .c (.o (.val (.string s)))), (2, [], .c (.o (.hd 0 0))), (4, [], .c (.o (.hd 1 0))), (5, [], .c (.o (.val (.int .i64 at_)))), (7, [], .c (.o (.val (.string all))))], [], [.cells 132 [.val (.bool res_Minus), .val (.slice none 0 0), .val (.int .i64 res_Off), .val (.bool res_Down), .val (.slice none 0 0), .val (.bool res_Plain), .val (.string res_Text)], .cells 132 [.val (.bool n_Minus), .val (.slice none 0 0), .val (.int .i64 n_Off), .val (.bool n_Down), .val (.slice none 0 0), .val (.bool n_Plain), .val (.string n_Text)]]⟩ kn kx kr = (zas_p1 s at_ all n_Off n_Down n_Plain).bind fun r => kr ⟨[(2, [], .c (.o (.hd 0 0))), (3, [], .c (.o (.val (.bool r.1))))], [], [.cells 132 [.val (.bool n_Minus), .own 1, .val (.int .i64 r.2.1), .val (.bool r.2.2.1), .own 2, .val (.bool r.2.2.2.1), .val (.string n_Text)], .row .i64 3 r.2.2.2.2.1, .row .i64 3 r.2.2.2.2.2]⟩ := by
 simp only [zas_p1, -eq_self, bind_cond, bind_gd, Option.bind_assoc, obS, Sum.elim_inl, Sum.elim_inr, bind_elim]
 kernel_rfl
theorem zas_sub1 : SubOK zas_L zas_G 0 13 222 1 zas_b1 := sub_ok' zas_d1 (fun x R kn kx kr => (zas_p1 x.1.1 x.1.2.2.2.1 x.1.2.2.2.2.1 x.2.2.1.2.2.1 x.2.2.1.2.2.2.1 x.2.2.1.2.2.2.2.2.1).bind fun r => kr ⟨[(2, [], .c (.o (.hd 0 0))), (3, [], .c (.o (.val (.bool r.1))))], [], [.cells 132 [.val (.bool x.2.2.1.1), .own 1, .val (.int .i64 r.2.1), .val (.bool r.2.2.1), .own 2, .val (.bool r.2.2.2.1), .val (.string x.2.2.1.2.2.2.2.2.2.1)], .row .i64 3 r.2.2.2.2.1, .row .i64 3 r.2.2.2.2.2]⟩) (by kernel_rfl) fun x R kn kx kr => zas_p1_eq x.1.1 x.1.2.2.2.1 x.1.2.2.2.2.1 x.2.1.1 x.2.1.2.2.1 x.2.1.2.2.2.1 x.2.1.2.2.2.2.2.1 x.2.1.2.2.2.2.2.2.1 x.2.2.1.1 x.2.2.1.2.2.1 x.2.2.1.2.2.2.1 x.2.2.1.2.2.2.2.2.1 x.2.2.1.2.2.2.2.2.2.1 R kn kx kr
theorem zas_p0_eq (s : ByteArray) (at_ : Int) (res_Minus : Bool) (res_Off : Int) (res_Down : Bool) (res_Plain : Bool) (res_Text : ByteArray) (n_Minus : Bool) (n_Off : Int) (n_Down : Bool) (n_Plain : Bool) (n_Text : ByteArray) (R : Type) (kn : QS → Option R) (kx : Nat → QS → Option R) (kr : QS → Option R) :
  interpQ zas_L zas_G 0 13 222 zas_b0 ⟨[(0, [], .c (.o (.val (.string s)))), (2, [], .c (.o (.hd 0 0))), (4, [], .c (.o (.hd 1 0))), (5, [], .c (.o (.val (.int .i64 at_))))], [], [.cells 132 [.val (.bool res_Minus), .val (.slice none 0 0), .val (.int .i64 res_Off), .val (.bool res_Down), .val (.slice none 0 0), .val (.bool res_Plain), .val (.string res_Text)], .cells 132 [.val (.bool n_Minus), .val (.slice none 0 0), .val (.int .i64 n_Off), .val (.bool n_Down), .val (.slice none 0 0), .val (.bool n_Plain), .val (.string n_Text)]]⟩ kn kx kr = (zas_p0 s at_ n_Off n_Down n_Plain n_Text).bind fun r => kr ⟨[(2, [], .c (.o (.hd 0 0))), (3, [], .c (.o (.val (.bool r.1))))], [], [.cells 132 [.val (.bool n_Minus), .own 1, .val (.int .i64 r.2.1), .val (.bool r.2.2.1), .own 2, .val (.bool r.2.2.2.1), .val (.string r.2.2.2.2.1)], .row .i64 3 r.2.2.2.2.2.1, .row .i64 3 r.2.2.2.2.2.2]⟩ := by
 simp only [zas_p0, -eq_self, bind_cond, bind_gd, Option.bind_assoc, obS, Sum.elim_inl, Sum.elim_inr, bind_elim]
 kernel_rfl
theorem zas_sub0 : SubOK zas_L zas_G 0 13 222 0 zas_b0 := sub_ok' zas_d0 (fun x R kn kx kr => (zas_p0 x.1.1 x.1.2.2.2.1 x.2.2.1.2.2.1 x.2.2.1.2.2.2.1 x.2.2.1.2.2.2.2.2.1 x.2.2.1.2.2.2.2.2.2.1).bind fun r => kr ⟨[(2, [], .c (.o (.hd 0 0))), (3, [], .c (.o (.val (.bool r.1))))], [], [.cells 132 [.val (.bool x.2.2.1.1), .own 1, .val (.int .i64 r.2.1), .val (.bool r.2.2.1), .own 2, .val (.bool r.2.2.2.1), .val (.string r.2.2.2.2.1)], .row .i64 3 r.2.2.2.2.2.1, .row .i64 3 r.2.2.2.2.2.2]⟩) (by kernel_rfl) fun x R kn kx kr => zas_p0_eq x.1.1 x.1.2.2.2.1 x.2.1.1 x.2.1.2.2.1 x.2.1.2.2.2.1 x.2.1.2.2.2.2.2.1 x.2.1.2.2.2.2.2.2.1 x.2.2.1.1 x.2.2.1.2.2.1 x.2.2.1.2.2.2.1 x.2.2.1.2.2.2.2.2.1 x.2.2.1.2.2.2.2.2.2.1 R kn kx kr
theorem zas_subs : subsOK zas_L zas_G 0 13 222 zas_q := subs_of (show AllSub zas_L zas_G 0 13 222 [(0, zas_b0), (1, zas_b1), (2, zas_b2), (3, zas_b3), (4, zas_b4), (5, zas_b5), (6, zas_b6)] from ⟨zas_sub0, zas_sub1, zas_sub2, zas_sub3, zas_sub4, zas_sub5, zas_sub6, trivial⟩)
theorem zas_eq (s : ByteArray) (R : Type) (k : SV → List SB → Option R) :
  fnQ zas_L zas_G 13 222 zas_q [.cell 2 (some 7), .tmp 3] [.c (.o (.val (.string s)))] [] k = (zas_s s).bind fun r => k (.tup [.agg [.val (.bool r.1.minus), .own 0, .val (.int .i64 r.1.off), .val (.bool r.1.down), .own 1, .val (.bool r.1.plain), .val (.string r.1.text)], .o (.val (.bool r.2))]) [.row .i64 3 r.1.digits, .row .i64 3 r.1.exp_] := by
 simp only [zas_s, -eq_self, bind_cond, bind_gd, Option.bind_assoc, obS, Sum.elim_inl, Sum.elim_inr, bind_elim]
 kernel_rfl
def zas_da := (dCons (dVC (dCO dS)) dNil)
def zas_db := (dNil : Dec Unit (List SB))
def zas_c : CS := fun args hp R k => (Dec.d zas_da args).bind fun x => (Dec.d zas_db hp).bind fun y => (zas_s x.1).bind fun r => k (.tup [.agg [.val (.bool r.1.minus), .own 0, .val (.int .i64 r.1.off), .val (.bool r.1.down), .own 1, .val (.bool r.1.plain), .val (.string r.1.text)], .o (.val (.bool r.2))]) [.row .i64 3 r.1.digits, .row .i64 3 r.1.exp_]
theorem zas_val : ValidS Tryd.prog 93 zas_c :=
 val_ok zas_chk 13 zas_Gok zas_da zas_db 0 (fun x y R k => (zas_s x.1).bind fun r => k (.tup [.agg [.val (.bool r.1.minus), .own 0, .val (.int .i64 r.1.off), .val (.bool r.1.down), .own 1, .val (.bool r.1.plain), .val (.string r.1.text)], .o (.val (.bool r.2))]) [.row .i64 3 r.1.digits, .row .i64 3 r.1.exp_]) (by kernel_rfl)
  (fun x y R k => by simp only [Option.bind_assoc, obS]) (fun x => Nat.le_of_ble_eq_true rfl) (fun y => rfl) zas_subs fun x y => zas_eq x.1 _ _
def zas_w : CQ := liftQ [] zas_c
theorem zas_ok : ValidQ Tryd.prog 93 zas_w := liftQ_valid zas_val

/-! ### signet/signetref2.Valid -/
def zat_q : IQ :=
 (.seq
 (.reg 2 none [
  oP 2 (.mv (.v (.bool false)))])
 (.seq
 (.reg 4 none [
  oP 6 (.mv (.t 0)),
  oP 7 (.call 93 [(.t 6)]),
  oP 5 (.mv (.t 7)),
  oP 8 (.extract (.t 5) 0),
  oP 9 (.extract (.t 5) 1),
  oP 3 (.alloc 132 [.bool false, .slice none 0 0, .int .i64 0, .bool false, .slice none 0 0, .bool false, .string ⟨#[]⟩]),
  ⟨none, .store 7 (.t 3) (.t 8), none⟩,
  oP 4 (.mv (.t 9))])
 (.seq
 (.reg 2 none [
  oP 10 (.mv (.t 4)),
  oP 2 (.mv (.t 10))])
 (.canon [] [2] .ret))))
theorem zat_chk : chk Tryd.prog 89 [] = some (zat_q.erase, [.tmp 2], 11) := by kernel_rfl
def zat_s (text : ByteArray) : Option Bool :=
 (zas_s text).bind fun r1 =>
 some r1.2
def zat_G : Nat → Option CQ := tblQ [(93, zas_w)]
theorem zat_Gok : ∀ f C, zat_G f = some C → ValidQ Tryd.prog f C := tblQ_valid ⟨zas_ok, trivial⟩
def zat_L : Nat → SubQ := tblL []
theorem zat_subs : subsOK zat_L zat_G 0 5 11 zat_q := subs_of (show AllSub zat_L zat_G 0 5 11 [] from trivial)
theorem zat_eq (text : ByteArray) (R : Type) (k : SV → List SB → Option R) :
  fnQ zat_L zat_G 5 11 zat_q [.tmp 2] [.c (.o (.val (.string text)))] [] k = (zat_s text).bind fun r => k (.c (.o (.val (.bool r)))) [] := by
 simp only [zat_s, -eq_self, bind_cond, bind_gd, Option.bind_assoc, obS, Sum.elim_inl, Sum.elim_inr, bind_elim]
 kernel_rfl
def zat_da := (dCons (dVC (dCO dS)) dNil)
def zat_db := (dNil : Dec Unit (List SB))
def zat_c : CS := fun args hp R k => (Dec.d zat_da args).bind fun x => (Dec.d zat_db hp).bind fun y => (zat_s x.1).bind fun r => k (.c (.o (.val (.bool r)))) []
theorem zat_val : ValidS Tryd.prog 89 zat_c :=
 val_ok zat_chk 5 zat_Gok zat_da zat_db 0 (fun x y R k => (zat_s x.1).bind fun r => k (.c (.o (.val (.bool r)))) []) (by kernel_rfl)
  (fun x y R k => by simp only [Option.bind_assoc, obS]) (fun x => Nat.le_of_ble_eq_true rfl) (fun y => rfl) zat_subs fun x y => zat_eq x.1 _ _
def zat_w : CQ := liftV [] zat_c
theorem zat_ok : ValidQ Tryd.prog 89 zat_w := liftV_valid zat_val

/-! ### signet/signetref2.Whole -/
def zau_b0 : IQ :=
 (.loop [4, 6, 7]
  (.seq
  (.seq
  (.reg 25 none [
   oP 21 (.mv (.t 7)),
   oP 22 (.faddr 6 (.t 4)),
   oP 23 (.load none (.t 22)),
   oP 24 (.lenS (.t 23)),
   oP 25 (.bin false .lss (.t 21) (.t 24))])
  (.cond (.t 25)
   .skip
   (.canon [] [4, 6] (.exit 0))))
  (.seq
  (.block 1
   (.seq
   (.reg 8 none [
    oP 28 (.faddr 6 (.t 4)),
    oP 29 (.load none (.t 28)),
    oP 30 (.mv (.t 7)),
    oP 31 (.index (.t 29) (.t 30)),
    oP 32 (.bin false .sub (.t 31) (.v (.int .u8 48))),
    oP 33 (.conv false .i64 (.t 32)),
    oP 8 (.mv (.t 33))])
   (.seq
   (.seq
   (.reg 38 none [
    oP 34 (.mv (.t 6)),
    oP 35 (.mv (.t 8)),
    oP 36 (.bin false .add (.v (.int .i64 (-9223372036854775808))) (.t 35)),
    oP 37 (.bin true .quo (.t 36) (.v (.int .i64 10))),
    oP 38 (.bin false .lss (.t 34) (.t 37))])
   (.cond (.t 38)
    (.seq
    (.reg 3 none [
     oP 2 (.mv (.v (.int .i64 0))),
     oP 3 (.mv (.v (.bool false)))])
    (.canon [] [2, 3] .ret))
    .skip))
   (.reg 6 none [
    oP 39 (.mv (.t 6)),
    oP 40 (.bin false .mul (.v (.int .i64 10)) (.t 39)),
    oP 41 (.mv (.t 8)),
    oP 42 (.bin false .sub (.t 40) (.t 41)),
    oP 6 (.mv (.t 42))]))))
  (.reg 7 none [
   oP 26 (.mv (.t 7)),
   oP 27 (.bin false .add (.t 26) (.v (.int .i64 1))),
   oP 7 (.mv (.t 27))]))))
def zau_q : IQ :=
 (.seq
 (.reg 3 none [
  oP 2 (.mv (.v (.int .i64 0))),
  oP 3 (.mv (.v (.bool false)))])
 (.seq
 (.reg 5 none [
  oP 10 (.mv (.t 0)),
  oP 11 (.call 93 [(.t 10)]),
  oP 9 (.mv (.t 11)),
  oP 12 (.extract (.t 9) 0),
  oP 13 (.extract (.t 9) 1),
  oP 4 (.alloc 132 [.bool false, .slice none 0 0, .int .i64 0, .bool false, .slice none 0 0, .bool false, .string ⟨#[]⟩]),
  ⟨none, .store 7 (.t 4) (.t 12), none⟩,
  oP 5 (.mv (.t 13))])
 (.seq
 (.seq
 (.reg 20 none [
  oP 14 (.mv (.t 5)),
  oP 15 (.un .not (.t 14)),
  oP 16 (.mv (.t 15)),
  oG 17 (.faddr 5 (.t 4)) 16 false,
  oG 18 (.load none (.t 17)) 16 false,
  oG 19 (.un .not (.t 18)) 16 false,
  oP 20 (.pick (.t 16) (.v (.bool true)) (.t 19))])
 (.cond (.t 20)
  (.seq
  (.reg 3 none [
   oP 2 (.mv (.v (.int .i64 0))),
   oP 3 (.mv (.v (.bool false)))])
  (.canon [] [2, 3] .ret))
  .skip))
 (.seq
 (.reg 6 none [
  oP 6 (.mv (.v (.int .i64 0)))])
 (.seq
 (.seq
 (.reg 7 none [
  oP 7 (.mv (.v (.int .i64 0)))])
 (.block 0
  (.canon [] [4, 6, 7] (.sub 0 zau_b0))))
 (.seq
 (.seq
 (.reg 44 none [
  oP 43 (.faddr 0 (.t 4)),
  oP 44 (.load none (.t 43))])
 (.cond (.t 44)
  (.seq
  (.reg 3 none [
   oP 45 (.mv (.t 6)),
   oP 2 (.mv (.t 45)),
   oP 3 (.mv (.v (.bool true)))])
  (.canon [] [2, 3] .ret))
  .skip))
 (.seq
 (.seq
 (.reg 47 none [
  oP 46 (.mv (.t 6)),
  oP 47 (.bin false .eql (.t 46) (.v (.int .i64 (-9223372036854775808))))])
 (.cond (.t 47)
  (.seq
  (.reg 3 none [
   oP 2 (.mv (.v (.int .i64 0))),
   oP 3 (.mv (.v (.bool false)))])
  (.canon [] [2, 3] .ret))
  .skip))
 (.seq
 (.reg 3 none [
  oP 48 (.mv (.t 6)),
  oP 49 (.un .neg (.t 48)),
  oP 2 (.mv (.t 49)),
  oP 3 (.mv (.v (.bool true)))])
 (.canon [] [2, 3] .ret)))))))))
theorem zau_chk : chk Tryd.prog 78 [37] = some (zau_q.erase, [.tmp 2, .tmp 3], 50) := by kernel_rfl
def zau_p0_step (v : Int) (i : Int) (n_Text : ByteArray) : Option ((Int × Int) ⊕ ((Int × Bool) ⊕ Int)) :=
 bif decide (i < (n_Text.size : Int)) then (
  gd (0 ≤ i ∧ i < n_Text.size) <|
  gd (InI64 (((bAt n_Text i) - (48 : Int)) % 256)) <|
  gd (InI64 ((-9223372036854775808 : Int) + (((bAt n_Text i) - (48 : Int)) % 256))) <|
  gd ((10 : Int) ≠ 0 ∧ InI64 (Int.tdiv ((-9223372036854775808 : Int) + (((bAt n_Text i) - (48 : Int)) % 256)) (10 : Int))) <|
  bif decide (v < (Int.tdiv ((-9223372036854775808 : Int) + (((bAt n_Text i) - (48 : Int)) % 256)) (10 : Int))) then (
   some (.inr (.inl ((0 : Int), false))))
  else (
   gd (InI64 ((10 : Int) * v)) <|
   gd (InI64 (((10 : Int) * v) - (((bAt n_Text i) - (48 : Int)) % 256))) <|
   gd (InI64 (i + (1 : Int))) <|
   some (.inl ((((10 : Int) * v) - (((bAt n_Text i) - (48 : Int)) % 256)), (i + (1 : Int))))))
 else (
  some (.inr (.inr v)))
def zau_p0 (v : Int) (i : Int) (n_Text : ByteArray) : Option ((Int × Bool) ⊕ Int) :=
 whileO (fun x : (Int × Int) => zau_p0_step x.1 x.2 n_Text) (v, i)
def zau_s (text : ByteArray) : Option (Int × Bool) :=
 (zas_s text).bind fun r3 =>
 bif ((!r3.2) || (!r3.1.plain)) then (
  some ((0 : Int), false))
 else (
  (zau_p0 (0 : Int) (0 : Int) r3.1.text).bind fun o4 => (Sum.elim (fun (o4_0 : Int × Bool) =>
   some (o4_0.1, o4_0.2)) (fun (o4_1 : Int) =>
   bif r3.1.minus then (
    some (o4_1, true))
   else (
    bif decide (o4_1 = (-9223372036854775808 : Int)) then (
     some ((0 : Int), false))
    else (
     gd (InI64 (0 - o4_1)) <|
     some ((0 - o4_1), true))))) o4)
def zau_G : Nat → Option CQ := tblQ [(93, zas_w)]
theorem zau_Gok : ∀ f C, zau_G f = some C → ValidQ Tryd.prog f C := tblQ_valid ⟨zas_ok, trivial⟩
def zau_d0 := (dQS (dCons (dSl 4 (dVC (dCO (dH 0 0)))) (dCons (dSl 6 (dVC (dCO (dI .i64)))) (dCons (dSl 7 (dVC (dCO (dI .i64)))) dNil))) (dCons (dCells 132 (dCons dB (dCons (dO 1) (dCons (dI .i64) (dCons dB (dCons (dO 2) (dCons dB (dCons dS dNil)))))))) (dCons (dRow .i64 3) (dCons (dRow .i64 3) dNil))))
def zau_l0 : SubQ := fun S R kn kx kr => (Dec.d zau_d0 S).bind fun x => (zau_p0 x.1.2.1 x.1.2.2.1 x.2.1.2.2.2.2.2.2.1).bind fun r => (Sum.elim (fun (r_0 : Int × Bool) => kr ⟨[(2, [], .c (.o (.val (.int .i64 r_0.1)))), (3, [], .c (.o (.val (.bool r_0.2))))], [], []⟩) (fun (r_1 : Int) => kx 0 ⟨[(4, [], .c (.o (.hd 0 0))), (6, [], .c (.o (.val (.int .i64 r_1))))], [], [.cells 132 [.val (.bool x.2.1.1), .own 1, .val (.int .i64 x.2.1.2.2.1), .val (.bool x.2.1.2.2.2.1), .own 2, .val (.bool x.2.1.2.2.2.2.2.1), .val (.string x.2.1.2.2.2.2.2.2.1)], .row .i64 3 x.2.2.1, .row .i64 3 x.2.2.2.1]⟩)) r
def zau_L : Nat → SubQ := tblL [(0, zau_l0)]
theorem zau_p0_eq (v : Int) (i : Int) (n_Minus : Bool) (n_Off : Int) (n_Down : Bool) (n_Plain : Bool) (n_Text : ByteArray) (n_Digits : List Int) (n_Exp : List Int) (R : Type) (kn : QS → Option R) (kx : Nat → QS → Option R) (kr : QS → Option R) :
  interpQ zau_L zau_G 0 9 50 zau_b0 ⟨[(4, [], .c (.o (.hd 0 0))), (6, [], .c (.o (.val (.int .i64 v)))), (7, [], .c (.o (.val (.int .i64 i))))], [], [.cells 132 [.val (.bool n_Minus), .own 1, .val (.int .i64 n_Off), .val (.bool n_Down), .own 2, .val (.bool n_Plain), .val (.string n_Text)], .row .i64 3 n_Digits, .row .i64 3 n_Exp]⟩ kn kx kr = (zau_p0 v i n_Text).bind fun r => (Sum.elim (fun (r_0 : Int × Bool) => kr ⟨[(2, [], .c (.o (.val (.int .i64 r_0.1)))), (3, [], .c (.o (.val (.bool r_0.2))))], [], []⟩) (fun (r_1 : Int) => kx 0 ⟨[(4, [], .c (.o (.hd 0 0))), (6, [], .c (.o (.val (.int .i64 r_1))))], [], [.cells 132 [.val (.bool n_Minus), .own 1, .val (.int .i64 n_Off), .val (.bool n_Down), .own 2, .val (.bool n_Plain), .val (.string n_Text)], .row .i64 3 n_Digits, .row .i64 3 n_Exp]⟩)) r := by
 refine loop_piece (step := fun x => zau_p0_step x.1 x.2 n_Text) (enc := fun x => ⟨[(4, [], .c (.o (.hd 0 0))), (6, [], .c (.o (.val (.int .i64 x.1)))), (7, [], .c (.o (.val (.int .i64 x.2))))], [], [.cells 132 [.val (.bool n_Minus), .own 1, .val (.int .i64 n_Off), .val (.bool n_Down), .own 2, .val (.bool n_Plain), .val (.string n_Text)], .row .i64 3 n_Digits, .row .i64 3 n_Exp]⟩) (ko := fun r => (Sum.elim (fun (r_0 : Int × Bool) => kr ⟨[(2, [], .c (.o (.val (.int .i64 r_0.1)))), (3, [], .c (.o (.val (.bool r_0.2))))], [], []⟩) (fun (r_1 : Int) => kx 0 ⟨[(4, [], .c (.o (.hd 0 0))), (6, [], .c (.o (.val (.int .i64 r_1))))], [], [.cells 132 [.val (.bool n_Minus), .own 1, .val (.int .i64 n_Off), .val (.bool n_Down), .own 2, .val (.bool n_Plain), .val (.string n_Text)], .row .i64 3 n_Digits, .row .i64 3 n_Exp]⟩)) r) ?_ ?_ (v, i)
 ·intro x; kernel_rfl
 ·intro x ki; simp only [zau_p0_step, -eq_self, bind_cond, bind_gd, Option.bind_assoc, obS, Sum.elim_inl, Sum.elim_inr, bind_elim]; kernel_rfl
theorem zau_sub0 : SubOK zau_L zau_G 0 9 50 0 zau_b0 := sub_ok' zau_d0 (fun x R kn kx kr => (zau_p0 x.1.2.1 x.1.2.2.1 x.2.1.2.2.2.2.2.2.1).bind fun r => (Sum.elim (fun (r_0 : Int × Bool) => kr ⟨[(2, [], .c (.o (.val (.int .i64 r_0.1)))), (3, [], .c (.o (.val (.bool r_0.2))))], [], []⟩) (fun (r_1 : Int) => kx 0 ⟨[(4, [], .c (.o (.hd 0 0))), (6, [], .c (.o (.val (.int .i64 r_1))))], [], [.cells 132 [.val (.bool x.2.1.1), .own 1, .val (.int .i64 x.2.1.2.2.1), .val (.bool x.2.1.2.2.2.1), .own 2, .val (.bool x.2.1.2.2.2.2.2.1), .val (.string x.2.1.2.2.2.2.2.2.1)], .row .i64 3 x.2.2.1, .row .i64 3 x.2.2.2.1]⟩)) r) (by kernel_rfl) fun x R kn kx kr => zau_p0_eq x.1.2.1 x.1.2.2.1 x.2.1.1 x.2.1.2.2.1 x.2.1.2.2.2.1 x.2.1.2.2.2.2.2.1 x.2.1.2.2.2.2.2.2.1 x.2.2.1 x.2.2.2.1 R kn kx kr
theorem zau_subs : subsOK zau_L zau_G 0 9 50 zau_q := subs_of (show AllSub zau_L zau_G 0 9 50 [(0, zau_b0)] from ⟨zau_sub0, trivial⟩)
theorem zau_eq (text : ByteArray) (R : Type) (k : SV → List SB → Option R) :
  fnQ zau_L zau_G 9 50 zau_q [.tmp 2, .tmp 3] [.c (.o (.val (.string text)))] [] k = (zau_s text).bind fun r => k (.tup [.o (.val (.int .i64 r.1)), .o (.val (.bool r.2))]) [] := by
 simp only [zau_s, -eq_self, bind_cond, bind_gd, Option.bind_assoc, obS, Sum.elim_inl, Sum.elim_inr, bind_elim]
 kernel_rfl
def zau_da := (dCons (dVC (dCO dS)) dNil)
def zau_db := (dNil : Dec Unit (List SB))
def zau_c : CS := fun args hp R k => (Dec.d zau_da args).bind fun x => (Dec.d zau_db hp).bind fun y => (zau_s x.1).bind fun r => k (.tup [.o (.val (.int .i64 r.1)), .o (.val (.bool r.2))]) []
theorem zau_val : ValidS Tryd.prog 78 zau_c :=
 val_ok zau_chk 9 zau_Gok zau_da zau_db 0 (fun x y R k => (zau_s x.1).bind fun r => k (.tup [.o (.val (.int .i64 r.1)), .o (.val (.bool r.2))]) []) (by kernel_rfl)
  (fun x y R k => by simp only [Option.bind_assoc, obS]) (fun x => Nat.le_of_ble_eq_true rfl) (fun y => rfl) zau_subs fun x y => zau_eq x.1 _ _
def zau_w : CQ := liftV [] zau_c
theorem zau_ok : ValidQ Tryd.prog 78 zau_w := liftV_valid zau_val
end
end Go.Proofs.YtekkjbomadoplaaDoor
