/-
  Functions as the engine reads them (printed by gen.py).
-/
import Derived.Test.YtdibapfehdhfjaaDoorEngO
import Derived.Test.YtdibapfehdhfjaaDoorProg
namespace Go.Proofs.YtdibapfehdhfjaaDoor
open Go.Eng
set_option linter.unusedVariables false
set_option linter.unusedSimpArgs false
set_option maxRecDepth 100000
structure decimal_number where
  minus : Bool
  whole : ByteArray
  digits : ByteArray
  point : Int
  plain : Bool
  down : Bool
  exp_ : ByteArray

structure signetref2_Num where
  minus : Bool
  digits : (List Int)
  off : Int
  down : Bool
  exp_ : (List Int)
  plain : Bool
  text : ByteArray

/-! ### internal/stringslite.HasPrefix -/
def internal_stringslite_HasPrefix_q : IQ :=
  (.seq
  (.reg 4 none [
    ⟨(some 4), .mv (.v (.bool false)), none⟩])
  (.seq
  (.reg 4 none [
    ⟨(some 5), .mv (.t 0), none⟩,
    ⟨(some 6), .lenS (.t 5), none⟩,
    ⟨(some 7), .mv (.t 1), none⟩,
    ⟨(some 8), .lenS (.t 7), none⟩,
    ⟨(some 9), .bin false .geq (.t 6) (.t 8), none⟩,
    ⟨(some 10), .mv (.t 9), none⟩,
    ⟨(some 11), .mv (.t 0), some (10, true)⟩,
    ⟨(some 12), .mv (.t 1), some (10, true)⟩,
    ⟨(some 13), .lenS (.t 12), some (10, true)⟩,
    ⟨(some 14), .sub none (.t 11) none (some (.t 13)), some (10, true)⟩,
    ⟨(some 15), .mv (.t 1), some (10, true)⟩,
    ⟨(some 16), .bin false .eql (.t 14) (.t 15), some (10, true)⟩,
    ⟨(some 17), .pick (.t 10) (.t 16) (.v (.bool false)), none⟩,
    ⟨(some 4), .mv (.t 17), none⟩])
  (.canon [] [4] .ret)))
theorem internal_stringslite_HasPrefix_chk : chk Tryd.prog 84 [] = some (internal_stringslite_HasPrefix_q.erase, [.tmp 4], 18) := by kernel_rfl
noncomputable def internal_stringslite_HasPrefix_s (s : ByteArray) (prefix_ : ByteArray) : Option Bool :=
  gd ((decide ((prefix_.size : Int) ≤ (s.size : Int))) = true → 0 ≤ (0 : Int) ∧ (0 : Int) ≤ (prefix_.size : Int) ∧ (prefix_.size : Int) ≤ s.size) <|
  some ((decide ((prefix_.size : Int) ≤ (s.size : Int))) && (decide ((s.extract 0 (Int.toNat (prefix_.size : Int))) = prefix_)))
noncomputable def internal_stringslite_HasPrefix_G : Nat → Option CQ := tblQ []
theorem internal_stringslite_HasPrefix_Gok : ∀ f C, internal_stringslite_HasPrefix_G f = some C → ValidQ Tryd.prog f C := fun f C h => by cases h
noncomputable def internal_stringslite_HasPrefix_L : Nat → SubQ := tblL []
theorem internal_stringslite_HasPrefix_subs : subsOK internal_stringslite_HasPrefix_L internal_stringslite_HasPrefix_G 0 5 18 internal_stringslite_HasPrefix_q := subs_of (show AllSub internal_stringslite_HasPrefix_L internal_stringslite_HasPrefix_G 0 5 18 [] from trivial)
theorem internal_stringslite_HasPrefix_eq (s : ByteArray) (prefix_ : ByteArray) (R : Type) (k : SV → List SB → Option R) :
    fnQ internal_stringslite_HasPrefix_L internal_stringslite_HasPrefix_G 5 18 internal_stringslite_HasPrefix_q [.tmp 4] [.c (.o (.val (.string s))), .c (.o (.val (.string prefix_)))] [] k = (internal_stringslite_HasPrefix_s s prefix_).bind fun r => k (.c (.o (.val (.bool r)))) [] := by
  simp only [internal_stringslite_HasPrefix_s, -eq_self, bind_cond, bind_gd, Option.bind_assoc, Option.bind_some, Sum.elim_inl, Sum.elim_inr, bind_elim]
  kernel_rfl
def internal_stringslite_HasPrefix_da := (dCons (dVC (dCO dS)) (dCons (dVC (dCO dS)) dNil))
def internal_stringslite_HasPrefix_db := (dNil : Dec Unit (List SB))
noncomputable def internal_stringslite_HasPrefix_c : CS := fun args hp R k => (Dec.d internal_stringslite_HasPrefix_da args).bind fun x => (Dec.d internal_stringslite_HasPrefix_db hp).bind fun y => (internal_stringslite_HasPrefix_s x.1 x.2.1).bind fun r => k (.c (.o (.val (.bool r)))) []
theorem internal_stringslite_HasPrefix_val : ValidS Tryd.prog 84 internal_stringslite_HasPrefix_c :=
  val_ok internal_stringslite_HasPrefix_chk 5 internal_stringslite_HasPrefix_Gok internal_stringslite_HasPrefix_da internal_stringslite_HasPrefix_db 0 (fun x y R k => (internal_stringslite_HasPrefix_s x.1 x.2.1).bind fun r => k (.c (.o (.val (.bool r)))) []) (by kernel_rfl)
    (fun x y R k => by simp only [Option.bind_assoc, Option.bind_some]) (fun x => Nat.le_of_ble_eq_true rfl) (fun y => rfl) internal_stringslite_HasPrefix_subs fun x y => internal_stringslite_HasPrefix_eq x.1 x.2.1 _ _
noncomputable def internal_stringslite_HasPrefix_w : CQ := liftV [] internal_stringslite_HasPrefix_c
theorem internal_stringslite_HasPrefix_ok : ValidQ Tryd.prog 84 internal_stringslite_HasPrefix_w := liftV_valid internal_stringslite_HasPrefix_val

/-! ### internal/stringslite.CutPrefix -/
def internal_stringslite_CutPrefix_q : IQ :=
  (.seq
  (.reg 5 none [
    ⟨(some 4), .mv (.v (.string ⟨#[]⟩)), none⟩,
    ⟨(some 5), .mv (.v (.bool false)), none⟩])
  (.seq
  (.seq
  (.reg 9 none [
    ⟨(some 6), .mv (.t 0), none⟩,
    ⟨(some 7), .mv (.t 1), none⟩,
    ⟨(some 8), .call 84 [(.t 6), (.t 7)], none⟩,
    ⟨(some 9), .un .not (.t 8), none⟩])
  (.cond (.t 9)
    (.seq
    (.reg 5 none [
      ⟨(some 10), .mv (.t 0), none⟩,
      ⟨(some 4), .mv (.t 10), none⟩,
      ⟨(some 5), .mv (.v (.bool false)), none⟩])
    (.canon [] [4, 5] .ret))
    .skip))
  (.seq
  (.reg 5 none [
    ⟨(some 11), .mv (.t 0), none⟩,
    ⟨(some 12), .mv (.t 1), none⟩,
    ⟨(some 13), .lenS (.t 12), none⟩,
    ⟨(some 14), .sub none (.t 11) (some (.t 13)) none, none⟩,
    ⟨(some 4), .mv (.t 14), none⟩,
    ⟨(some 5), .mv (.v (.bool true)), none⟩])
  (.canon [] [4, 5] .ret))))
theorem internal_stringslite_CutPrefix_chk : chk Tryd.prog 67 [] = some (internal_stringslite_CutPrefix_q.erase, [.tmp 4, .tmp 5], 15) := by kernel_rfl
noncomputable def internal_stringslite_CutPrefix_s (s : ByteArray) (prefix_ : ByteArray) : Option (ByteArray × Bool) :=
  (internal_stringslite_HasPrefix_s s prefix_).bind fun r1 =>
  bif (!r1) then (
    some (s, false))
  else (
    gd (0 ≤ (prefix_.size : Int) ∧ (prefix_.size : Int) ≤ (s.size : Int) ∧ (s.size : Int) ≤ s.size) <|
    some ((s.extract (Int.toNat (prefix_.size : Int)) s.size), true))
noncomputable def internal_stringslite_CutPrefix_G : Nat → Option CQ := tblQ [(84, internal_stringslite_HasPrefix_w)]
theorem internal_stringslite_CutPrefix_Gok : ∀ f C, internal_stringslite_CutPrefix_G f = some C → ValidQ Tryd.prog f C := tblQ_valid ⟨internal_stringslite_HasPrefix_ok, trivial⟩
noncomputable def internal_stringslite_CutPrefix_L : Nat → SubQ := tblL []
theorem internal_stringslite_CutPrefix_subs : subsOK internal_stringslite_CutPrefix_L internal_stringslite_CutPrefix_G 0 6 15 internal_stringslite_CutPrefix_q := subs_of (show AllSub internal_stringslite_CutPrefix_L internal_stringslite_CutPrefix_G 0 6 15 [] from trivial)
theorem internal_stringslite_CutPrefix_eq (s : ByteArray) (prefix_ : ByteArray) (R : Type) (k : SV → List SB → Option R) :
    fnQ internal_stringslite_CutPrefix_L internal_stringslite_CutPrefix_G 6 15 internal_stringslite_CutPrefix_q [.tmp 4, .tmp 5] [.c (.o (.val (.string s))), .c (.o (.val (.string prefix_)))] [] k = (internal_stringslite_CutPrefix_s s prefix_).bind fun r => k (.tup [.o (.val (.string r.1)), .o (.val (.bool r.2))]) [] := by
  simp only [internal_stringslite_CutPrefix_s, -eq_self, bind_cond, bind_gd, Option.bind_assoc, Option.bind_some, Sum.elim_inl, Sum.elim_inr, bind_elim]
  kernel_rfl
def internal_stringslite_CutPrefix_da := (dCons (dVC (dCO dS)) (dCons (dVC (dCO dS)) dNil))
def internal_stringslite_CutPrefix_db := (dNil : Dec Unit (List SB))
noncomputable def internal_stringslite_CutPrefix_c : CS := fun args hp R k => (Dec.d internal_stringslite_CutPrefix_da args).bind fun x => (Dec.d internal_stringslite_CutPrefix_db hp).bind fun y => (internal_stringslite_CutPrefix_s x.1 x.2.1).bind fun r => k (.tup [.o (.val (.string r.1)), .o (.val (.bool r.2))]) []
theorem internal_stringslite_CutPrefix_val : ValidS Tryd.prog 67 internal_stringslite_CutPrefix_c :=
  val_ok internal_stringslite_CutPrefix_chk 6 internal_stringslite_CutPrefix_Gok internal_stringslite_CutPrefix_da internal_stringslite_CutPrefix_db 0 (fun x y R k => (internal_stringslite_CutPrefix_s x.1 x.2.1).bind fun r => k (.tup [.o (.val (.string r.1)), .o (.val (.bool r.2))]) []) (by kernel_rfl)
    (fun x y R k => by simp only [Option.bind_assoc, Option.bind_some]) (fun x => Nat.le_of_ble_eq_true rfl) (fun y => rfl) internal_stringslite_CutPrefix_subs fun x y => internal_stringslite_CutPrefix_eq x.1 x.2.1 _ _
noncomputable def internal_stringslite_CutPrefix_w : CQ := liftV [] internal_stringslite_CutPrefix_c
theorem internal_stringslite_CutPrefix_ok : ValidQ Tryd.prog 67 internal_stringslite_CutPrefix_w := liftV_valid internal_stringslite_CutPrefix_val

/-! ### strings.CutPrefix -/
def strings_CutPrefix_q : IQ :=
  (.seq
  (.reg 5 none [
    ⟨(some 4), .mv (.v (.string ⟨#[]⟩)), none⟩,
    ⟨(some 5), .mv (.v (.bool false)), none⟩])
  (.seq
  (.reg 5 none [
    ⟨(some 6), .mv (.t 0), none⟩,
    ⟨(some 7), .mv (.t 1), none⟩,
    ⟨(some 8), .call 67 [(.t 6), (.t 7)], none⟩,
    ⟨(some 9), .extract (.t 8) 0, none⟩,
    ⟨(some 10), .extract (.t 8) 1, none⟩,
    ⟨(some 4), .mv (.t 9), none⟩,
    ⟨(some 5), .mv (.t 10), none⟩])
  (.canon [] [4, 5] .ret)))
theorem strings_CutPrefix_chk : chk Tryd.prog 50 [] = some (strings_CutPrefix_q.erase, [.tmp 4, .tmp 5], 11) := by kernel_rfl
noncomputable def strings_CutPrefix_s (s : ByteArray) (prefix_ : ByteArray) : Option (ByteArray × Bool) :=
  (internal_stringslite_CutPrefix_s s prefix_).bind fun r1 =>
  some (r1.1, r1.2)
noncomputable def strings_CutPrefix_G : Nat → Option CQ := tblQ [(67, internal_stringslite_CutPrefix_w)]
theorem strings_CutPrefix_Gok : ∀ f C, strings_CutPrefix_G f = some C → ValidQ Tryd.prog f C := tblQ_valid ⟨internal_stringslite_CutPrefix_ok, trivial⟩
noncomputable def strings_CutPrefix_L : Nat → SubQ := tblL []
theorem strings_CutPrefix_subs : subsOK strings_CutPrefix_L strings_CutPrefix_G 0 6 11 strings_CutPrefix_q := subs_of (show AllSub strings_CutPrefix_L strings_CutPrefix_G 0 6 11 [] from trivial)
theorem strings_CutPrefix_eq (s : ByteArray) (prefix_ : ByteArray) (R : Type) (k : SV → List SB → Option R) :
    fnQ strings_CutPrefix_L strings_CutPrefix_G 6 11 strings_CutPrefix_q [.tmp 4, .tmp 5] [.c (.o (.val (.string s))), .c (.o (.val (.string prefix_)))] [] k = (strings_CutPrefix_s s prefix_).bind fun r => k (.tup [.o (.val (.string r.1)), .o (.val (.bool r.2))]) [] := by
  simp only [strings_CutPrefix_s, -eq_self, bind_cond, bind_gd, Option.bind_assoc, Option.bind_some, Sum.elim_inl, Sum.elim_inr, bind_elim]
  kernel_rfl
def strings_CutPrefix_da := (dCons (dVC (dCO dS)) (dCons (dVC (dCO dS)) dNil))
def strings_CutPrefix_db := (dNil : Dec Unit (List SB))
noncomputable def strings_CutPrefix_c : CS := fun args hp R k => (Dec.d strings_CutPrefix_da args).bind fun x => (Dec.d strings_CutPrefix_db hp).bind fun y => (strings_CutPrefix_s x.1 x.2.1).bind fun r => k (.tup [.o (.val (.string r.1)), .o (.val (.bool r.2))]) []
theorem strings_CutPrefix_val : ValidS Tryd.prog 50 strings_CutPrefix_c :=
  val_ok strings_CutPrefix_chk 6 strings_CutPrefix_Gok strings_CutPrefix_da strings_CutPrefix_db 0 (fun x y R k => (strings_CutPrefix_s x.1 x.2.1).bind fun r => k (.tup [.o (.val (.string r.1)), .o (.val (.bool r.2))]) []) (by kernel_rfl)
    (fun x y R k => by simp only [Option.bind_assoc, Option.bind_some]) (fun x => Nat.le_of_ble_eq_true rfl) (fun y => rfl) strings_CutPrefix_subs fun x y => strings_CutPrefix_eq x.1 x.2.1 _ _
noncomputable def strings_CutPrefix_w : CQ := liftV [] strings_CutPrefix_c
theorem strings_CutPrefix_ok : ValidQ Tryd.prog 50 strings_CutPrefix_w := liftV_valid strings_CutPrefix_val

/-! ### signet/decimal.run -/
def decimal_run_b0 : IQ :=
  (.loop [0, 3]
    (.seq
    (.seq
    (.reg 19 none [
      ⟨(some 4), .mv (.t 3), none⟩,
      ⟨(some 5), .mv (.t 0), none⟩,
      ⟨(some 6), .lenS (.t 5), none⟩,
      ⟨(some 7), .bin false .lss (.t 4) (.t 6), none⟩,
      ⟨(some 8), .mv (.t 7), none⟩,
      ⟨(some 9), .mv (.t 0), some (8, true)⟩,
      ⟨(some 10), .mv (.t 3), some (8, true)⟩,
      ⟨(some 11), .index (.t 9) (.t 10), some (8, true)⟩,
      ⟨(some 12), .bin false .geq (.t 11) (.v (.int .u8 48)), some (8, true)⟩,
      ⟨(some 13), .pick (.t 8) (.t 12) (.v (.bool false)), none⟩,
      ⟨(some 14), .mv (.t 13), none⟩,
      ⟨(some 15), .mv (.t 0), some (14, true)⟩,
      ⟨(some 16), .mv (.t 3), some (14, true)⟩,
      ⟨(some 17), .index (.t 15) (.t 16), some (14, true)⟩,
      ⟨(some 18), .bin false .leq (.t 17) (.v (.int .u8 57)), some (14, true)⟩,
      ⟨(some 19), .pick (.t 14) (.t 18) (.v (.bool false)), none⟩])
    (.cond (.t 19)
      .skip
      (.canon [] [3] (.exit 0))))
    (.block 1
      (.reg 3 none [
        ⟨(some 20), .mv (.t 3), none⟩,
        ⟨(some 21), .bin false .add (.t 20) (.v (.int .i64 1)), none⟩,
        ⟨(some 3), .mv (.t 21), none⟩]))))
def decimal_run_q : IQ :=
  (.seq
  (.reg 2 none [
    ⟨(some 2), .mv (.v (.int .i64 0)), none⟩])
  (.seq
  (.reg 3 none [
    ⟨(some 3), .mv (.v (.int .i64 0)), none⟩])
  (.seq
  (.block 0
    (.canon [] [0, 3] (.sub 0 decimal_run_b0)))
  (.seq
  (.reg 2 none [
    ⟨(some 22), .mv (.t 3), none⟩,
    ⟨(some 2), .mv (.t 22), none⟩])
  (.canon [] [2] .ret)))))
theorem decimal_run_chk : chk Tryd.prog 51 [] = some (decimal_run_q.erase, [.tmp 2], 23) := by kernel_rfl
noncomputable def decimal_run_p0_step (s : ByteArray) (n : Int) : Option (Int ⊕ Int) :=
  gd ((decide (n < (s.size : Int))) = true → 0 ≤ n ∧ n < s.size) <|
  gd (((decide (n < (s.size : Int))) && (decide ((48 : Int) ≤ (bAt s n)))) = true → 0 ≤ n ∧ n < s.size) <|
  bif (((decide (n < (s.size : Int))) && (decide ((48 : Int) ≤ (bAt s n)))) && (decide ((bAt s n) ≤ (57 : Int)))) then (
    gd (InI64 (n + (1 : Int))) <|
    some (.inl (n + (1 : Int))))
  else (
    some (.inr n))
noncomputable def decimal_run_p0 (s : ByteArray) (n : Int) : Option Int :=
  whileO (fun x : Int => decimal_run_p0_step s x) n
noncomputable def decimal_run_s (s : ByteArray) : Option Int :=
  (decimal_run_p0 s (0 : Int)).bind fun o1 =>
  some o1
noncomputable def decimal_run_G : Nat → Option CQ := tblQ []
theorem decimal_run_Gok : ∀ f C, decimal_run_G f = some C → ValidQ Tryd.prog f C := fun f C h => by cases h
def decimal_run_d0 := (dQS (dCons (dSl 0 (dVC (dCO dS))) (dCons (dSl 3 (dVC (dCO (dI .i64)))) dNil)) dNil)
noncomputable def decimal_run_l0 : SubQ := fun S R kn kx kr => (Dec.d decimal_run_d0 S).bind fun x => (decimal_run_p0 x.1.1 x.1.2.1).bind fun r => kx 0 ⟨[(3, [], .c (.o (.val (.int .i64 r))))], [], []⟩
noncomputable def decimal_run_L : Nat → SubQ := tblL [(0, decimal_run_l0)]
theorem decimal_run_p0_eq (s : ByteArray) (n : Int) (R : Type) (kn : QS → Option R) (kx : Nat → QS → Option R) (kr : QS → Option R) :
    interpQ decimal_run_L decimal_run_G 0 4 23 decimal_run_b0 ⟨[(0, [], .c (.o (.val (.string s)))), (3, [], .c (.o (.val (.int .i64 n))))], [], []⟩ kn kx kr = (decimal_run_p0 s n).bind fun r => kx 0 ⟨[(3, [], .c (.o (.val (.int .i64 r))))], [], []⟩ := by
  refine loop_piece (step := fun x => decimal_run_p0_step s x) (enc := fun x => ⟨[(0, [], .c (.o (.val (.string s)))), (3, [], .c (.o (.val (.int .i64 x))))], [], []⟩) (ko := fun r => kx 0 ⟨[(3, [], .c (.o (.val (.int .i64 r))))], [], []⟩) ?_ ?_ n
  · intro x; kernel_rfl
  · intro x ki; simp only [decimal_run_p0_step, -eq_self, bind_cond, bind_gd, Option.bind_assoc, Option.bind_some, Sum.elim_inl, Sum.elim_inr, bind_elim]; kernel_rfl
theorem decimal_run_sub0 : SubOK decimal_run_L decimal_run_G 0 4 23 0 decimal_run_b0 := sub_ok' decimal_run_d0 (fun x R kn kx kr => (decimal_run_p0 x.1.1 x.1.2.1).bind fun r => kx 0 ⟨[(3, [], .c (.o (.val (.int .i64 r))))], [], []⟩) (by kernel_rfl) fun x R kn kx kr => decimal_run_p0_eq x.1.1 x.1.2.1 R kn kx kr
theorem decimal_run_subs : subsOK decimal_run_L decimal_run_G 0 4 23 decimal_run_q := subs_of (show AllSub decimal_run_L decimal_run_G 0 4 23 [(0, decimal_run_b0)] from ⟨decimal_run_sub0, trivial⟩)
theorem decimal_run_eq (s : ByteArray) (R : Type) (k : SV → List SB → Option R) :
    fnQ decimal_run_L decimal_run_G 4 23 decimal_run_q [.tmp 2] [.c (.o (.val (.string s)))] [] k = (decimal_run_s s).bind fun r => k (.c (.o (.val (.int .i64 r)))) [] := by
  simp only [decimal_run_s, -eq_self, bind_cond, bind_gd, Option.bind_assoc, Option.bind_some, Sum.elim_inl, Sum.elim_inr, bind_elim]
  kernel_rfl
def decimal_run_da := (dCons (dVC (dCO dS)) dNil)
def decimal_run_db := (dNil : Dec Unit (List SB))
noncomputable def decimal_run_c : CS := fun args hp R k => (Dec.d decimal_run_da args).bind fun x => (Dec.d decimal_run_db hp).bind fun y => (decimal_run_s x.1).bind fun r => k (.c (.o (.val (.int .i64 r)))) []
theorem decimal_run_val : ValidS Tryd.prog 51 decimal_run_c :=
  val_ok decimal_run_chk 4 decimal_run_Gok decimal_run_da decimal_run_db 0 (fun x y R k => (decimal_run_s x.1).bind fun r => k (.c (.o (.val (.int .i64 r)))) []) (by kernel_rfl)
    (fun x y R k => by simp only [Option.bind_assoc, Option.bind_some]) (fun x => Nat.le_of_ble_eq_true rfl) (fun y => rfl) decimal_run_subs fun x y => decimal_run_eq x.1 _ _
noncomputable def decimal_run_w : CQ := liftV [] decimal_run_c
theorem decimal_run_ok : ValidQ Tryd.prog 51 decimal_run_w := liftV_valid decimal_run_val

/-! ### strings.trimLeftByte -/
def strings_trimLeftByte_b0 : IQ :=
  (.loop [0, 1]
    (.seq
    (.seq
    (.reg 13 none [
      ⟨(some 5), .mv (.t 0), none⟩,
      ⟨(some 6), .lenS (.t 5), none⟩,
      ⟨(some 7), .bin false .gtr (.t 6) (.v (.int .i64 0)), none⟩,
      ⟨(some 8), .mv (.t 7), none⟩,
      ⟨(some 9), .mv (.t 0), some (8, true)⟩,
      ⟨(some 10), .index (.t 9) (.v (.int .i64 0)), some (8, true)⟩,
      ⟨(some 11), .mv (.t 1), some (8, true)⟩,
      ⟨(some 12), .bin false .eql (.t 10) (.t 11), some (8, true)⟩,
      ⟨(some 13), .pick (.t 8) (.t 12) (.v (.bool false)), none⟩])
    (.cond (.t 13)
      .skip
      (.canon [] [0] (.exit 0))))
    (.block 1
      (.reg 0 none [
        ⟨(some 14), .mv (.t 0), none⟩,
        ⟨(some 15), .sub none (.t 14) (some (.v (.int .i64 1))) none, none⟩,
        ⟨(some 0), .mv (.t 15), none⟩]))))
def strings_trimLeftByte_q : IQ :=
  (.seq
  (.reg 4 none [
    ⟨(some 4), .mv (.v (.string ⟨#[]⟩)), none⟩])
  (.seq
  (.block 0
    (.canon [] [0, 1] (.sub 0 strings_trimLeftByte_b0)))
  (.seq
  (.reg 4 none [
    ⟨(some 16), .mv (.t 0), none⟩,
    ⟨(some 4), .mv (.t 16), none⟩])
  (.canon [] [4] .ret))))
theorem strings_trimLeftByte_chk : chk Tryd.prog 68 [] = some (strings_trimLeftByte_q.erase, [.tmp 4], 17) := by kernel_rfl
noncomputable def strings_trimLeftByte_p0_step (s : ByteArray) (c : Int) : Option (ByteArray ⊕ ByteArray) :=
  gd ((decide ((0 : Int) < (s.size : Int))) = true → 0 ≤ (0 : Int) ∧ (0 : Int) < s.size) <|
  bif ((decide ((0 : Int) < (s.size : Int))) && (decide ((bAt s (0 : Int)) = c))) then (
    gd (0 ≤ (1 : Int) ∧ (1 : Int) ≤ (s.size : Int) ∧ (s.size : Int) ≤ s.size) <|
    some (.inl (s.extract 1 s.size)))
  else (
    some (.inr s))
noncomputable def strings_trimLeftByte_p0 (s : ByteArray) (c : Int) : Option ByteArray :=
  whileO (fun x : ByteArray => strings_trimLeftByte_p0_step x c) s
noncomputable def strings_trimLeftByte_s (s : ByteArray) (c : Int) : Option ByteArray :=
  (strings_trimLeftByte_p0 s c).bind fun o1 =>
  some o1
noncomputable def strings_trimLeftByte_G : Nat → Option CQ := tblQ []
theorem strings_trimLeftByte_Gok : ∀ f C, strings_trimLeftByte_G f = some C → ValidQ Tryd.prog f C := fun f C h => by cases h
def strings_trimLeftByte_d0 := (dQS (dCons (dSl 0 (dVC (dCO dS))) (dCons (dSl 1 (dVC (dCO (dI .u8)))) dNil)) dNil)
noncomputable def strings_trimLeftByte_l0 : SubQ := fun S R kn kx kr => (Dec.d strings_trimLeftByte_d0 S).bind fun x => (strings_trimLeftByte_p0 x.1.1 x.1.2.1).bind fun r => kx 0 ⟨[(0, [], .c (.o (.val (.string r))))], [], []⟩
noncomputable def strings_trimLeftByte_L : Nat → SubQ := tblL [(0, strings_trimLeftByte_l0)]
theorem strings_trimLeftByte_p0_eq (s : ByteArray) (c : Int) (R : Type) (kn : QS → Option R) (kx : Nat → QS → Option R) (kr : QS → Option R) :
    interpQ strings_trimLeftByte_L strings_trimLeftByte_G 0 5 17 strings_trimLeftByte_b0 ⟨[(0, [], .c (.o (.val (.string s)))), (1, [], .c (.o (.val (.int .u8 c))))], [], []⟩ kn kx kr = (strings_trimLeftByte_p0 s c).bind fun r => kx 0 ⟨[(0, [], .c (.o (.val (.string r))))], [], []⟩ := by
  refine loop_piece (step := fun x => strings_trimLeftByte_p0_step x c) (enc := fun x => ⟨[(0, [], .c (.o (.val (.string x)))), (1, [], .c (.o (.val (.int .u8 c))))], [], []⟩) (ko := fun r => kx 0 ⟨[(0, [], .c (.o (.val (.string r))))], [], []⟩) ?_ ?_ s
  · intro x; kernel_rfl
  · intro x ki; simp only [strings_trimLeftByte_p0_step, -eq_self, bind_cond, bind_gd, Option.bind_assoc, Option.bind_some, Sum.elim_inl, Sum.elim_inr, bind_elim]; kernel_rfl
theorem strings_trimLeftByte_sub0 : SubOK strings_trimLeftByte_L strings_trimLeftByte_G 0 5 17 0 strings_trimLeftByte_b0 := sub_ok' strings_trimLeftByte_d0 (fun x R kn kx kr => (strings_trimLeftByte_p0 x.1.1 x.1.2.1).bind fun r => kx 0 ⟨[(0, [], .c (.o (.val (.string r))))], [], []⟩) (by kernel_rfl) fun x R kn kx kr => strings_trimLeftByte_p0_eq x.1.1 x.1.2.1 R kn kx kr
theorem strings_trimLeftByte_subs : subsOK strings_trimLeftByte_L strings_trimLeftByte_G 0 5 17 strings_trimLeftByte_q := subs_of (show AllSub strings_trimLeftByte_L strings_trimLeftByte_G 0 5 17 [(0, strings_trimLeftByte_b0)] from ⟨strings_trimLeftByte_sub0, trivial⟩)
theorem strings_trimLeftByte_eq (s : ByteArray) (c : Int) (R : Type) (k : SV → List SB → Option R) :
    fnQ strings_trimLeftByte_L strings_trimLeftByte_G 5 17 strings_trimLeftByte_q [.tmp 4] [.c (.o (.val (.string s))), .c (.o (.val (.int .u8 c)))] [] k = (strings_trimLeftByte_s s c).bind fun r => k (.c (.o (.val (.string r)))) [] := by
  simp only [strings_trimLeftByte_s, -eq_self, bind_cond, bind_gd, Option.bind_assoc, Option.bind_some, Sum.elim_inl, Sum.elim_inr, bind_elim]
  kernel_rfl
def strings_trimLeftByte_da := (dCons (dVC (dCO dS)) (dCons (dVC (dCO (dI .u8))) dNil))
def strings_trimLeftByte_db := (dNil : Dec Unit (List SB))
noncomputable def strings_trimLeftByte_c : CS := fun args hp R k => (Dec.d strings_trimLeftByte_da args).bind fun x => (Dec.d strings_trimLeftByte_db hp).bind fun y => (strings_trimLeftByte_s x.1 x.2.1).bind fun r => k (.c (.o (.val (.string r)))) []
theorem strings_trimLeftByte_val : ValidS Tryd.prog 68 strings_trimLeftByte_c :=
  val_ok strings_trimLeftByte_chk 5 strings_trimLeftByte_Gok strings_trimLeftByte_da strings_trimLeftByte_db 0 (fun x y R k => (strings_trimLeftByte_s x.1 x.2.1).bind fun r => k (.c (.o (.val (.string r)))) []) (by kernel_rfl)
    (fun x y R k => by simp only [Option.bind_assoc, Option.bind_some]) (fun x => Nat.le_of_ble_eq_true rfl) (fun y => rfl) strings_trimLeftByte_subs fun x y => strings_trimLeftByte_eq x.1 x.2.1 _ _
noncomputable def strings_trimLeftByte_w : CQ := liftV [] strings_trimLeftByte_c
theorem strings_trimLeftByte_ok : ValidQ Tryd.prog 68 strings_trimLeftByte_w := liftV_valid strings_trimLeftByte_val

/-! ### strings.TrimLeft -/
def strings_TrimLeft_q : IQ :=
  (.seq
  (.reg 4 none [
    ⟨(some 4), .mv (.v (.string ⟨#[]⟩)), none⟩])
  (.seq
  (.seq
  (.reg 12 none [
    ⟨(some 7), .mv (.t 0), none⟩,
    ⟨(some 8), .bin false .eql (.t 7) (.v (.string ⟨#[]⟩)), none⟩,
    ⟨(some 9), .mv (.t 8), none⟩,
    ⟨(some 10), .mv (.t 1), some (9, false)⟩,
    ⟨(some 11), .bin false .eql (.t 10) (.v (.string ⟨#[]⟩)), some (9, false)⟩,
    ⟨(some 12), .pick (.t 9) (.v (.bool true)) (.t 11), none⟩])
  (.cond (.t 12)
    (.seq
    (.reg 4 none [
      ⟨(some 13), .mv (.t 0), none⟩,
      ⟨(some 4), .mv (.t 13), none⟩])
    (.canon [] [4] .ret))
    .skip))
  (.seq
  (.seq
  (.reg 21 none [
    ⟨(some 14), .mv (.t 1), none⟩,
    ⟨(some 15), .lenS (.t 14), none⟩,
    ⟨(some 16), .bin false .eql (.t 15) (.v (.int .i64 1)), none⟩,
    ⟨(some 17), .mv (.t 16), none⟩,
    ⟨(some 18), .mv (.t 1), some (17, true)⟩,
    ⟨(some 19), .index (.t 18) (.v (.int .i64 0)), some (17, true)⟩,
    ⟨(some 20), .bin false .lss (.t 19) (.v (.int .u8 128)), some (17, true)⟩,
    ⟨(some 21), .pick (.t 17) (.t 20) (.v (.bool false)), none⟩])
  (.cond (.t 21)
    (.seq
    (.reg 4 none [
      ⟨(some 22), .mv (.t 0), none⟩,
      ⟨(some 23), .mv (.t 1), none⟩,
      ⟨(some 24), .index (.t 23) (.v (.int .i64 0)), none⟩,
      ⟨(some 25), .call 68 [(.t 22), (.t 24)], none⟩,
      ⟨(some 4), .mv (.t 25), none⟩])
    (.canon [] [4] .ret))
    .skip))
  (.seq
  (.seq
  (.reg 6 none [
    ⟨(some 27), .mv (.t 1), none⟩,
    ⟨(some 28), .call 64 [(.t 27)], none⟩,
    ⟨(some 26), .mv (.t 28), none⟩,
    ⟨(some 29), .extract (.t 26) 0, none⟩,
    ⟨(some 30), .extract (.t 26) 1, none⟩,
    ⟨(some 5), .alloc 93 [.bool false, .bool false, .bool false, .bool false, .bool false, .bool false, .bool false, .bool false, .bool false, .bool false, .bool false, .bool false, .bool false, .bool false, .bool false, .bool false, .bool false, .bool false, .bool false, .bool false, .bool false, .bool false, .bool false, .bool false, .bool false, .bool false, .bool false, .bool false, .bool false, .bool false, .bool false, .bool false, .bool false, .bool false, .bool false, .bool false, .bool false, .bool false, .bool false, .bool false, .bool false, .bool false, .bool false, .bool false, .bool false, .bool false, .bool false, .bool false, .bool false, .bool false, .bool false, .bool false, .bool false, .bool false, .bool false, .bool false, .bool false, .bool false, .bool false, .bool false, .bool false, .bool false, .bool false, .bool false, .bool false, .bool false, .bool false, .bool false, .bool false, .bool false, .bool false, .bool false, .bool false, .bool false, .bool false, .bool false, .bool false, .bool false, .bool false, .bool false, .bool false, .bool false, .bool false, .bool false, .bool false, .bool false, .bool false, .bool false, .bool false, .bool false, .bool false, .bool false, .bool false, .bool false, .bool false, .bool false, .bool false, .bool false, .bool false, .bool false, .bool false, .bool false, .bool false, .bool false, .bool false, .bool false, .bool false, .bool false, .bool false, .bool false, .bool false, .bool false, .bool false, .bool false, .bool false, .bool false, .bool false, .bool false, .bool false, .bool false, .bool false, .bool false, .bool false, .bool false, .bool false, .bool false, .bool false, .bool false, .bool false, .bool false, .bool false, .bool false, .bool false, .bool false, .bool false, .bool false, .bool false, .bool false, .bool false, .bool false, .bool false, .bool false, .bool false, .bool false, .bool false, .bool false, .bool false, .bool false, .bool false, .bool false, .bool false, .bool false, .bool false, .bool false, .bool false, .bool false, .bool false, .bool false, .bool false, .bool false, .bool false, .bool false, .bool false, .bool false, .bool false, .bool false, .bool false, .bool false, .bool false, .bool false, .bool false, .bool false, .bool false, .bool false, .bool false, .bool false, .bool false, .bool false, .bool false, .bool false, .bool false, .bool false, .bool false, .bool false, .bool false, .bool false, .bool false, .bool false, .bool false, .bool false, .bool false, .bool false, .bool false, .bool false, .bool false, .bool false, .bool false, .bool false, .bool false, .bool false, .bool false, .bool false, .bool false, .bool false, .bool false, .bool false, .bool false, .bool false, .bool false, .bool false, .bool false, .bool false, .bool false, .bool false, .bool false, .bool false, .bool false, .bool false, .bool false, .bool false, .bool false, .bool false, .bool false, .bool false, .bool false, .bool false, .bool false, .bool false, .bool false, .bool false, .bool false, .bool false, .bool false, .bool false, .bool false, .bool false, .bool false, .bool false, .bool false, .bool false, .bool false, .bool false, .bool false, .bool false, .bool false, .bool false, .bool false, .bool false, .bool false, .bool false, .bool false, .bool false, .bool false, .bool false, .bool false, .bool false], none⟩,
    ⟨none, .store 256 (.t 5) (.t 29), none⟩,
    ⟨(some 6), .mv (.t 30), none⟩])
  (.seq
  (.reg 31 none [
    ⟨(some 31), .mv (.t 6), none⟩])
  (.cond (.t 31)
    (.seq
    (.reg 4 none [
      ⟨(some 32), .mv (.t 0), none⟩,
      ⟨(some 33), .call 69 [(.t 32), (.t 5)], none⟩,
      ⟨(some 4), .mv (.t 33), none⟩])
    (.canon [] [4] .ret))
    .skip)))
  (.seq
  (.reg 4 none [
    ⟨(some 34), .mv (.t 0), none⟩,
    ⟨(some 35), .mv (.t 1), none⟩,
    ⟨(some 36), .call 70 [(.t 34), (.t 35)], none⟩,
    ⟨(some 4), .mv (.t 36), none⟩])
  (.canon [] [4] .ret))))))
theorem strings_TrimLeft_chk : chk Tryd.prog 52 [] = some (strings_TrimLeft_q.erase, [.tmp 4], 37) := by kernel_rfl
noncomputable def strings_TrimLeft_s (s : ByteArray) (cutset : ByteArray) : Option ByteArray :=
  bif ((decide (s = (⟨#[]⟩ : ByteArray))) || (decide (cutset = (⟨#[]⟩ : ByteArray)))) then (
    some s)
  else (
    gd ((decide ((cutset.size : Int) = (1 : Int))) = true → 0 ≤ (0 : Int) ∧ (0 : Int) < cutset.size) <|
    bif ((decide ((cutset.size : Int) = (1 : Int))) && (decide ((bAt cutset (0 : Int)) < (128 : Int)))) then (
      gd (0 ≤ (0 : Int) ∧ (0 : Int) < cutset.size) <|
      (strings_trimLeftByte_s s (bAt cutset (0 : Int))).bind fun r1 =>
      some r1)
    else (
      none))
noncomputable def strings_TrimLeft_G : Nat → Option CQ := tblQ [(68, strings_trimLeftByte_w)]
theorem strings_TrimLeft_Gok : ∀ f C, strings_TrimLeft_G f = some C → ValidQ Tryd.prog f C := tblQ_valid ⟨strings_trimLeftByte_ok, trivial⟩
noncomputable def strings_TrimLeft_L : Nat → SubQ := tblL []
theorem strings_TrimLeft_subs : subsOK strings_TrimLeft_L strings_TrimLeft_G 0 7 37 strings_TrimLeft_q := subs_of (show AllSub strings_TrimLeft_L strings_TrimLeft_G 0 7 37 [] from trivial)
theorem strings_TrimLeft_eq (s : ByteArray) (cutset : ByteArray) (R : Type) (k : SV → List SB → Option R) :
    fnQ strings_TrimLeft_L strings_TrimLeft_G 7 37 strings_TrimLeft_q [.tmp 4] [.c (.o (.val (.string s))), .c (.o (.val (.string cutset)))] [] k = (strings_TrimLeft_s s cutset).bind fun r => k (.c (.o (.val (.string r)))) [] := by
  simp only [strings_TrimLeft_s, -eq_self, bind_cond, bind_gd, Option.bind_assoc, Option.bind_some, Sum.elim_inl, Sum.elim_inr, bind_elim]
  kernel_rfl
def strings_TrimLeft_da := (dCons (dVC (dCO dS)) (dCons (dVC (dCO dS)) dNil))
def strings_TrimLeft_db := (dNil : Dec Unit (List SB))
noncomputable def strings_TrimLeft_c : CS := fun args hp R k => (Dec.d strings_TrimLeft_da args).bind fun x => (Dec.d strings_TrimLeft_db hp).bind fun y => (strings_TrimLeft_s x.1 x.2.1).bind fun r => k (.c (.o (.val (.string r)))) []
theorem strings_TrimLeft_val : ValidS Tryd.prog 52 strings_TrimLeft_c :=
  val_ok strings_TrimLeft_chk 7 strings_TrimLeft_Gok strings_TrimLeft_da strings_TrimLeft_db 0 (fun x y R k => (strings_TrimLeft_s x.1 x.2.1).bind fun r => k (.c (.o (.val (.string r)))) []) (by kernel_rfl)
    (fun x y R k => by simp only [Option.bind_assoc, Option.bind_some]) (fun x => Nat.le_of_ble_eq_true rfl) (fun y => rfl) strings_TrimLeft_subs fun x y => strings_TrimLeft_eq x.1 x.2.1 _ _
noncomputable def strings_TrimLeft_w : CQ := liftV [] strings_TrimLeft_c
theorem strings_TrimLeft_ok : ValidQ Tryd.prog 52 strings_TrimLeft_w := liftV_valid strings_TrimLeft_val

/-! ### strings.trimRightByte -/
def strings_trimRightByte_b0 : IQ :=
  (.loop [0, 1]
    (.seq
    (.seq
    (.reg 16 none [
      ⟨(some 5), .mv (.t 0), none⟩,
      ⟨(some 6), .lenS (.t 5), none⟩,
      ⟨(some 7), .bin false .gtr (.t 6) (.v (.int .i64 0)), none⟩,
      ⟨(some 8), .mv (.t 7), none⟩,
      ⟨(some 9), .mv (.t 0), some (8, true)⟩,
      ⟨(some 10), .mv (.t 0), some (8, true)⟩,
      ⟨(some 11), .lenS (.t 10), some (8, true)⟩,
      ⟨(some 12), .bin false .sub (.t 11) (.v (.int .i64 1)), some (8, true)⟩,
      ⟨(some 13), .index (.t 9) (.t 12), some (8, true)⟩,
      ⟨(some 14), .mv (.t 1), some (8, true)⟩,
      ⟨(some 15), .bin false .eql (.t 13) (.t 14), some (8, true)⟩,
      ⟨(some 16), .pick (.t 8) (.t 15) (.v (.bool false)), none⟩])
    (.cond (.t 16)
      .skip
      (.canon [] [0] (.exit 0))))
    (.block 1
      (.reg 0 none [
        ⟨(some 17), .mv (.t 0), none⟩,
        ⟨(some 18), .mv (.t 0), none⟩,
        ⟨(some 19), .lenS (.t 18), none⟩,
        ⟨(some 20), .bin false .sub (.t 19) (.v (.int .i64 1)), none⟩,
        ⟨(some 21), .sub none (.t 17) none (some (.t 20)), none⟩,
        ⟨(some 0), .mv (.t 21), none⟩]))))
def strings_trimRightByte_q : IQ :=
  (.seq
  (.reg 4 none [
    ⟨(some 4), .mv (.v (.string ⟨#[]⟩)), none⟩])
  (.seq
  (.block 0
    (.canon [] [0, 1] (.sub 0 strings_trimRightByte_b0)))
  (.seq
  (.reg 4 none [
    ⟨(some 22), .mv (.t 0), none⟩,
    ⟨(some 4), .mv (.t 22), none⟩])
  (.canon [] [4] .ret))))
theorem strings_trimRightByte_chk : chk Tryd.prog 63 [] = some (strings_trimRightByte_q.erase, [.tmp 4], 23) := by kernel_rfl
noncomputable def strings_trimRightByte_p0_step (s : ByteArray) (c : Int) : Option (ByteArray ⊕ ByteArray) :=
  gd ((decide ((0 : Int) < (s.size : Int))) = true → InI64 ((s.size : Int) - (1 : Int))) <|
  gd ((decide ((0 : Int) < (s.size : Int))) = true → 0 ≤ ((s.size : Int) - (1 : Int)) ∧ ((s.size : Int) - (1 : Int)) < s.size) <|
  bif ((decide ((0 : Int) < (s.size : Int))) && (decide ((bAt s ((s.size : Int) - (1 : Int))) = c))) then (
    gd (InI64 ((s.size : Int) - (1 : Int))) <|
    gd (0 ≤ (0 : Int) ∧ (0 : Int) ≤ ((s.size : Int) - (1 : Int)) ∧ ((s.size : Int) - (1 : Int)) ≤ s.size) <|
    some (.inl (s.extract 0 (Int.toNat ((s.size : Int) - (1 : Int))))))
  else (
    some (.inr s))
noncomputable def strings_trimRightByte_p0 (s : ByteArray) (c : Int) : Option ByteArray :=
  whileO (fun x : ByteArray => strings_trimRightByte_p0_step x c) s
noncomputable def strings_trimRightByte_s (s : ByteArray) (c : Int) : Option ByteArray :=
  (strings_trimRightByte_p0 s c).bind fun o1 =>
  some o1
noncomputable def strings_trimRightByte_G : Nat → Option CQ := tblQ []
theorem strings_trimRightByte_Gok : ∀ f C, strings_trimRightByte_G f = some C → ValidQ Tryd.prog f C := fun f C h => by cases h
def strings_trimRightByte_d0 := (dQS (dCons (dSl 0 (dVC (dCO dS))) (dCons (dSl 1 (dVC (dCO (dI .u8)))) dNil)) dNil)
noncomputable def strings_trimRightByte_l0 : SubQ := fun S R kn kx kr => (Dec.d strings_trimRightByte_d0 S).bind fun x => (strings_trimRightByte_p0 x.1.1 x.1.2.1).bind fun r => kx 0 ⟨[(0, [], .c (.o (.val (.string r))))], [], []⟩
noncomputable def strings_trimRightByte_L : Nat → SubQ := tblL [(0, strings_trimRightByte_l0)]
theorem strings_trimRightByte_p0_eq (s : ByteArray) (c : Int) (R : Type) (kn : QS → Option R) (kx : Nat → QS → Option R) (kr : QS → Option R) :
    interpQ strings_trimRightByte_L strings_trimRightByte_G 0 5 23 strings_trimRightByte_b0 ⟨[(0, [], .c (.o (.val (.string s)))), (1, [], .c (.o (.val (.int .u8 c))))], [], []⟩ kn kx kr = (strings_trimRightByte_p0 s c).bind fun r => kx 0 ⟨[(0, [], .c (.o (.val (.string r))))], [], []⟩ := by
  refine loop_piece (step := fun x => strings_trimRightByte_p0_step x c) (enc := fun x => ⟨[(0, [], .c (.o (.val (.string x)))), (1, [], .c (.o (.val (.int .u8 c))))], [], []⟩) (ko := fun r => kx 0 ⟨[(0, [], .c (.o (.val (.string r))))], [], []⟩) ?_ ?_ s
  · intro x; kernel_rfl
  · intro x ki; simp only [strings_trimRightByte_p0_step, -eq_self, bind_cond, bind_gd, Option.bind_assoc, Option.bind_some, Sum.elim_inl, Sum.elim_inr, bind_elim]; kernel_rfl
theorem strings_trimRightByte_sub0 : SubOK strings_trimRightByte_L strings_trimRightByte_G 0 5 23 0 strings_trimRightByte_b0 := sub_ok' strings_trimRightByte_d0 (fun x R kn kx kr => (strings_trimRightByte_p0 x.1.1 x.1.2.1).bind fun r => kx 0 ⟨[(0, [], .c (.o (.val (.string r))))], [], []⟩) (by kernel_rfl) fun x R kn kx kr => strings_trimRightByte_p0_eq x.1.1 x.1.2.1 R kn kx kr
theorem strings_trimRightByte_subs : subsOK strings_trimRightByte_L strings_trimRightByte_G 0 5 23 strings_trimRightByte_q := subs_of (show AllSub strings_trimRightByte_L strings_trimRightByte_G 0 5 23 [(0, strings_trimRightByte_b0)] from ⟨strings_trimRightByte_sub0, trivial⟩)
theorem strings_trimRightByte_eq (s : ByteArray) (c : Int) (R : Type) (k : SV → List SB → Option R) :
    fnQ strings_trimRightByte_L strings_trimRightByte_G 5 23 strings_trimRightByte_q [.tmp 4] [.c (.o (.val (.string s))), .c (.o (.val (.int .u8 c)))] [] k = (strings_trimRightByte_s s c).bind fun r => k (.c (.o (.val (.string r)))) [] := by
  simp only [strings_trimRightByte_s, -eq_self, bind_cond, bind_gd, Option.bind_assoc, Option.bind_some, Sum.elim_inl, Sum.elim_inr, bind_elim]
  kernel_rfl
def strings_trimRightByte_da := (dCons (dVC (dCO dS)) (dCons (dVC (dCO (dI .u8))) dNil))
def strings_trimRightByte_db := (dNil : Dec Unit (List SB))
noncomputable def strings_trimRightByte_c : CS := fun args hp R k => (Dec.d strings_trimRightByte_da args).bind fun x => (Dec.d strings_trimRightByte_db hp).bind fun y => (strings_trimRightByte_s x.1 x.2.1).bind fun r => k (.c (.o (.val (.string r)))) []
theorem strings_trimRightByte_val : ValidS Tryd.prog 63 strings_trimRightByte_c :=
  val_ok strings_trimRightByte_chk 5 strings_trimRightByte_Gok strings_trimRightByte_da strings_trimRightByte_db 0 (fun x y R k => (strings_trimRightByte_s x.1 x.2.1).bind fun r => k (.c (.o (.val (.string r)))) []) (by kernel_rfl)
    (fun x y R k => by simp only [Option.bind_assoc, Option.bind_some]) (fun x => Nat.le_of_ble_eq_true rfl) (fun y => rfl) strings_trimRightByte_subs fun x y => strings_trimRightByte_eq x.1 x.2.1 _ _
noncomputable def strings_trimRightByte_w : CQ := liftV [] strings_trimRightByte_c
theorem strings_trimRightByte_ok : ValidQ Tryd.prog 63 strings_trimRightByte_w := liftV_valid strings_trimRightByte_val

/-! ### strings.TrimRight -/
def strings_TrimRight_q : IQ :=
  (.seq
  (.reg 4 none [
    ⟨(some 4), .mv (.v (.string ⟨#[]⟩)), none⟩])
  (.seq
  (.seq
  (.reg 12 none [
    ⟨(some 7), .mv (.t 0), none⟩,
    ⟨(some 8), .bin false .eql (.t 7) (.v (.string ⟨#[]⟩)), none⟩,
    ⟨(some 9), .mv (.t 8), none⟩,
    ⟨(some 10), .mv (.t 1), some (9, false)⟩,
    ⟨(some 11), .bin false .eql (.t 10) (.v (.string ⟨#[]⟩)), some (9, false)⟩,
    ⟨(some 12), .pick (.t 9) (.v (.bool true)) (.t 11), none⟩])
  (.cond (.t 12)
    (.seq
    (.reg 4 none [
      ⟨(some 13), .mv (.t 0), none⟩,
      ⟨(some 4), .mv (.t 13), none⟩])
    (.canon [] [4] .ret))
    .skip))
  (.seq
  (.seq
  (.reg 21 none [
    ⟨(some 14), .mv (.t 1), none⟩,
    ⟨(some 15), .lenS (.t 14), none⟩,
    ⟨(some 16), .bin false .eql (.t 15) (.v (.int .i64 1)), none⟩,
    ⟨(some 17), .mv (.t 16), none⟩,
    ⟨(some 18), .mv (.t 1), some (17, true)⟩,
    ⟨(some 19), .index (.t 18) (.v (.int .i64 0)), some (17, true)⟩,
    ⟨(some 20), .bin false .lss (.t 19) (.v (.int .u8 128)), some (17, true)⟩,
    ⟨(some 21), .pick (.t 17) (.t 20) (.v (.bool false)), none⟩])
  (.cond (.t 21)
    (.seq
    (.reg 4 none [
      ⟨(some 22), .mv (.t 0), none⟩,
      ⟨(some 23), .mv (.t 1), none⟩,
      ⟨(some 24), .index (.t 23) (.v (.int .i64 0)), none⟩,
      ⟨(some 25), .call 63 [(.t 22), (.t 24)], none⟩,
      ⟨(some 4), .mv (.t 25), none⟩])
    (.canon [] [4] .ret))
    .skip))
  (.seq
  (.seq
  (.reg 6 none [
    ⟨(some 27), .mv (.t 1), none⟩,
    ⟨(some 28), .call 64 [(.t 27)], none⟩,
    ⟨(some 26), .mv (.t 28), none⟩,
    ⟨(some 29), .extract (.t 26) 0, none⟩,
    ⟨(some 30), .extract (.t 26) 1, none⟩,
    ⟨(some 5), .alloc 93 [.bool false, .bool false, .bool false, .bool false, .bool false, .bool false, .bool false, .bool false, .bool false, .bool false, .bool false, .bool false, .bool false, .bool false, .bool false, .bool false, .bool false, .bool false, .bool false, .bool false, .bool false, .bool false, .bool false, .bool false, .bool false, .bool false, .bool false, .bool false, .bool false, .bool false, .bool false, .bool false, .bool false, .bool false, .bool false, .bool false, .bool false, .bool false, .bool false, .bool false, .bool false, .bool false, .bool false, .bool false, .bool false, .bool false, .bool false, .bool false, .bool false, .bool false, .bool false, .bool false, .bool false, .bool false, .bool false, .bool false, .bool false, .bool false, .bool false, .bool false, .bool false, .bool false, .bool false, .bool false, .bool false, .bool false, .bool false, .bool false, .bool false, .bool false, .bool false, .bool false, .bool false, .bool false, .bool false, .bool false, .bool false, .bool false, .bool false, .bool false, .bool false, .bool false, .bool false, .bool false, .bool false, .bool false, .bool false, .bool false, .bool false, .bool false, .bool false, .bool false, .bool false, .bool false, .bool false, .bool false, .bool false, .bool false, .bool false, .bool false, .bool false, .bool false, .bool false, .bool false, .bool false, .bool false, .bool false, .bool false, .bool false, .bool false, .bool false, .bool false, .bool false, .bool false, .bool false, .bool false, .bool false, .bool false, .bool false, .bool false, .bool false, .bool false, .bool false, .bool false, .bool false, .bool false, .bool false, .bool false, .bool false, .bool false, .bool false, .bool false, .bool false, .bool false, .bool false, .bool false, .bool false, .bool false, .bool false, .bool false, .bool false, .bool false, .bool false, .bool false, .bool false, .bool false, .bool false, .bool false, .bool false, .bool false, .bool false, .bool false, .bool false, .bool false, .bool false, .bool false, .bool false, .bool false, .bool false, .bool false, .bool false, .bool false, .bool false, .bool false, .bool false, .bool false, .bool false, .bool false, .bool false, .bool false, .bool false, .bool false, .bool false, .bool false, .bool false, .bool false, .bool false, .bool false, .bool false, .bool false, .bool false, .bool false, .bool false, .bool false, .bool false, .bool false, .bool false, .bool false, .bool false, .bool false, .bool false, .bool false, .bool false, .bool false, .bool false, .bool false, .bool false, .bool false, .bool false, .bool false, .bool false, .bool false, .bool false, .bool false, .bool false, .bool false, .bool false, .bool false, .bool false, .bool false, .bool false, .bool false, .bool false, .bool false, .bool false, .bool false, .bool false, .bool false, .bool false, .bool false, .bool false, .bool false, .bool false, .bool false, .bool false, .bool false, .bool false, .bool false, .bool false, .bool false, .bool false, .bool false, .bool false, .bool false, .bool false, .bool false, .bool false, .bool false, .bool false, .bool false, .bool false, .bool false, .bool false, .bool false, .bool false, .bool false, .bool false, .bool false, .bool false, .bool false, .bool false, .bool false, .bool false, .bool false, .bool false, .bool false], none⟩,
    ⟨none, .store 256 (.t 5) (.t 29), none⟩,
    ⟨(some 6), .mv (.t 30), none⟩])
  (.seq
  (.reg 31 none [
    ⟨(some 31), .mv (.t 6), none⟩])
  (.cond (.t 31)
    (.seq
    (.reg 4 none [
      ⟨(some 32), .mv (.t 0), none⟩,
      ⟨(some 33), .call 65 [(.t 32), (.t 5)], none⟩,
      ⟨(some 4), .mv (.t 33), none⟩])
    (.canon [] [4] .ret))
    .skip)))
  (.seq
  (.reg 4 none [
    ⟨(some 34), .mv (.t 0), none⟩,
    ⟨(some 35), .mv (.t 1), none⟩,
    ⟨(some 36), .call 66 [(.t 34), (.t 35)], none⟩,
    ⟨(some 4), .mv (.t 36), none⟩])
  (.canon [] [4] .ret))))))
theorem strings_TrimRight_chk : chk Tryd.prog 49 [] = some (strings_TrimRight_q.erase, [.tmp 4], 37) := by kernel_rfl
noncomputable def strings_TrimRight_s (s : ByteArray) (cutset : ByteArray) : Option ByteArray :=
  bif ((decide (s = (⟨#[]⟩ : ByteArray))) || (decide (cutset = (⟨#[]⟩ : ByteArray)))) then (
    some s)
  else (
    gd ((decide ((cutset.size : Int) = (1 : Int))) = true → 0 ≤ (0 : Int) ∧ (0 : Int) < cutset.size) <|
    bif ((decide ((cutset.size : Int) = (1 : Int))) && (decide ((bAt cutset (0 : Int)) < (128 : Int)))) then (
      gd (0 ≤ (0 : Int) ∧ (0 : Int) < cutset.size) <|
      (strings_trimRightByte_s s (bAt cutset (0 : Int))).bind fun r1 =>
      some r1)
    else (
      none))
noncomputable def strings_TrimRight_G : Nat → Option CQ := tblQ [(63, strings_trimRightByte_w)]
theorem strings_TrimRight_Gok : ∀ f C, strings_TrimRight_G f = some C → ValidQ Tryd.prog f C := tblQ_valid ⟨strings_trimRightByte_ok, trivial⟩
noncomputable def strings_TrimRight_L : Nat → SubQ := tblL []
theorem strings_TrimRight_subs : subsOK strings_TrimRight_L strings_TrimRight_G 0 7 37 strings_TrimRight_q := subs_of (show AllSub strings_TrimRight_L strings_TrimRight_G 0 7 37 [] from trivial)
theorem strings_TrimRight_eq (s : ByteArray) (cutset : ByteArray) (R : Type) (k : SV → List SB → Option R) :
    fnQ strings_TrimRight_L strings_TrimRight_G 7 37 strings_TrimRight_q [.tmp 4] [.c (.o (.val (.string s))), .c (.o (.val (.string cutset)))] [] k = (strings_TrimRight_s s cutset).bind fun r => k (.c (.o (.val (.string r)))) [] := by
  simp only [strings_TrimRight_s, -eq_self, bind_cond, bind_gd, Option.bind_assoc, Option.bind_some, Sum.elim_inl, Sum.elim_inr, bind_elim]
  kernel_rfl
def strings_TrimRight_da := (dCons (dVC (dCO dS)) (dCons (dVC (dCO dS)) dNil))
def strings_TrimRight_db := (dNil : Dec Unit (List SB))
noncomputable def strings_TrimRight_c : CS := fun args hp R k => (Dec.d strings_TrimRight_da args).bind fun x => (Dec.d strings_TrimRight_db hp).bind fun y => (strings_TrimRight_s x.1 x.2.1).bind fun r => k (.c (.o (.val (.string r)))) []
theorem strings_TrimRight_val : ValidS Tryd.prog 49 strings_TrimRight_c :=
  val_ok strings_TrimRight_chk 7 strings_TrimRight_Gok strings_TrimRight_da strings_TrimRight_db 0 (fun x y R k => (strings_TrimRight_s x.1 x.2.1).bind fun r => k (.c (.o (.val (.string r)))) []) (by kernel_rfl)
    (fun x y R k => by simp only [Option.bind_assoc, Option.bind_some]) (fun x => Nat.le_of_ble_eq_true rfl) (fun y => rfl) strings_TrimRight_subs fun x y => strings_TrimRight_eq x.1 x.2.1 _ _
noncomputable def strings_TrimRight_w : CQ := liftV [] strings_TrimRight_c
theorem strings_TrimRight_ok : ValidQ Tryd.prog 49 strings_TrimRight_w := liftV_valid strings_TrimRight_val

/-! ### signet/decimal.read -/
def decimal_read_b0 : IQ :=
  (.join [] [0, 4, 6, 7]
  (.seq
  (.reg 8 none [
    ⟨(some 29), .mv (.t 0), none⟩,
    ⟨(some 30), .call 51 [(.t 29)], none⟩,
    ⟨(some 8), .mv (.t 30), none⟩])
  (.seq
  (.seq
  (.reg 41 none [
    ⟨(some 31), .mv (.t 8), none⟩,
    ⟨(some 32), .bin false .eql (.t 31) (.v (.int .i64 0)), none⟩,
    ⟨(some 33), .mv (.t 32), none⟩,
    ⟨(some 34), .mv (.t 8), some (33, false)⟩,
    ⟨(some 35), .bin false .gtr (.t 34) (.v (.int .i64 1)), some (33, false)⟩,
    ⟨(some 36), .mv (.t 35), some (33, false)⟩,
    ⟨(some 37), .mv (.t 0), some (36, true)⟩,
    ⟨(some 38), .index (.t 37) (.v (.int .i64 0)), some (36, true)⟩,
    ⟨(some 39), .bin false .eql (.t 38) (.v (.int .u8 48)), some (36, true)⟩,
    ⟨(some 40), .pick (.t 36) (.t 39) (.v (.bool false)), some (33, false)⟩,
    ⟨(some 41), .pick (.t 33) (.v (.bool true)) (.t 40), none⟩])
  (.cond (.t 41)
    (.seq
    (.reg 5 none [
      ⟨(some 42), .load (some 7) (.t 6), none⟩,
      ⟨none, .store 7 (.t 4) (.t 42), none⟩,
      ⟨(some 5), .mv (.v (.bool false)), none⟩])
    (.canon [] [4, 5] .ret))
    .skip))
  (.reg 0 (some [0, 1, 2, 3, 4, 5, 6, 7, 8]) [
    ⟨(some 43), .mv (.t 0), none⟩,
    ⟨(some 44), .mv (.t 8), none⟩,
    ⟨(some 45), .sub none (.t 43) none (some (.t 44)), none⟩,
    ⟨(some 46), .mv (.t 0), none⟩,
    ⟨(some 47), .mv (.t 8), none⟩,
    ⟨(some 48), .sub none (.t 46) (some (.t 47)) none, none⟩,
    ⟨(some 49), .faddr 1 (.t 6), none⟩,
    ⟨none, .store 1 (.t 49) (.t 45), none⟩,
    ⟨(some 0), .mv (.t 48), none⟩]))))
def decimal_read_b1 : IQ :=
  (.join [] [0, 4, 6, 7]
  (.seq
  (.reg 10 none [
    ⟨(some 51), .mv (.t 0), none⟩,
    ⟨(some 52), .call 50 [(.t 51), (.v (.string ⟨#[46]⟩))], none⟩,
    ⟨(some 50), .mv (.t 52), none⟩,
    ⟨(some 53), .extract (.t 50) 0, none⟩,
    ⟨(some 54), .extract (.t 50) 1, none⟩,
    ⟨(some 9), .mv (.t 53), none⟩,
    ⟨(some 10), .mv (.t 54), none⟩])
  (.seq
  (.reg 55 none [
    ⟨(some 55), .mv (.t 10), none⟩])
  (.cond (.t 55)
    (.seq
    (.reg 11 none [
      ⟨(some 56), .mv (.t 9), none⟩,
      ⟨(some 57), .call 51 [(.t 56)], none⟩,
      ⟨(some 11), .mv (.t 57), none⟩])
    (.seq
    (.seq
    (.reg 59 none [
      ⟨(some 58), .mv (.t 11), none⟩,
      ⟨(some 59), .bin false .eql (.t 58) (.v (.int .i64 0)), none⟩])
    (.cond (.t 59)
      (.seq
      (.reg 5 none [
        ⟨(some 60), .load (some 7) (.t 6), none⟩,
        ⟨none, .store 7 (.t 4) (.t 60), none⟩,
        ⟨(some 5), .mv (.v (.bool false)), none⟩])
      (.canon [] [4, 5] .ret))
      .skip))
    (.reg 0 (some [0, 1, 2, 3, 4, 5, 6, 7, 8, 9]) [
      ⟨(some 61), .mv (.t 9), none⟩,
      ⟨(some 62), .mv (.t 11), none⟩,
      ⟨(some 63), .sub none (.t 61) none (some (.t 62)), none⟩,
      ⟨(some 64), .mv (.t 9), none⟩,
      ⟨(some 65), .mv (.t 11), none⟩,
      ⟨(some 66), .sub none (.t 64) (some (.t 65)) none, none⟩,
      ⟨(some 67), .faddr 4 (.t 6), none⟩,
      ⟨none, .store 1 (.t 67) (.v (.bool false)), none⟩,
      ⟨(some 7), .mv (.t 63), none⟩,
      ⟨(some 0), .mv (.t 66), none⟩])))
    .skip))))
def decimal_read_b3 : IQ :=
  (.join [] [0, 4, 6, 7]
  (.seq
  (.seq
  (.reg 104 none [
    ⟨(some 96), .mv (.t 0), none⟩,
    ⟨(some 97), .bin false .eql (.t 96) (.v (.string ⟨#[]⟩)), none⟩,
    ⟨(some 98), .mv (.t 97), none⟩,
    ⟨(some 99), .mv (.t 0), some (98, false)⟩,
    ⟨(some 100), .call 51 [(.t 99)], some (98, false)⟩,
    ⟨(some 101), .mv (.t 0), some (98, false)⟩,
    ⟨(some 102), .lenS (.t 101), some (98, false)⟩,
    ⟨(some 103), .bin false .neq (.t 100) (.t 102), some (98, false)⟩,
    ⟨(some 104), .pick (.t 98) (.v (.bool true)) (.t 103), none⟩])
  (.cond (.t 104)
    (.seq
    (.reg 5 none [
      ⟨(some 105), .load (some 7) (.t 6), none⟩,
      ⟨none, .store 7 (.t 4) (.t 105), none⟩,
      ⟨(some 5), .mv (.v (.bool false)), none⟩])
    (.canon [] [4, 5] .ret))
    .skip))
  (.reg 0 none [
    ⟨(some 106), .mv (.t 0), none⟩,
    ⟨(some 107), .call 52 [(.t 106), (.v (.string ⟨#[48]⟩))], none⟩,
    ⟨(some 108), .faddr 4 (.t 6), none⟩,
    ⟨none, .store 1 (.t 108) (.v (.bool false)), none⟩,
    ⟨(some 109), .faddr 6 (.t 6), none⟩,
    ⟨none, .store 1 (.t 109) (.t 107), none⟩,
    ⟨(some 0), .mv (.v (.string ⟨#[]⟩)), none⟩])))
def decimal_read_b2 : IQ :=
  (.seq
  (.seq
  (.reg 75 none [
    ⟨(some 68), .mv (.t 0), none⟩,
    ⟨(some 69), .bin false .neq (.t 68) (.v (.string ⟨#[]⟩)), none⟩,
    ⟨(some 70), .mv (.t 69), none⟩,
    ⟨(some 71), .mv (.t 0), some (70, true)⟩,
    ⟨(some 72), .index (.t 71) (.v (.int .i64 0)), some (70, true)⟩,
    ⟨(some 73), .bin false .or (.t 72) (.v (.int .u8 32)), some (70, true)⟩,
    ⟨(some 74), .bin false .eql (.t 73) (.v (.int .u8 101)), some (70, true)⟩,
    ⟨(some 75), .pick (.t 70) (.t 74) (.v (.bool false)), none⟩])
  (.cond (.t 75)
    (.seq
    (.reg 0 none [
      ⟨(some 76), .mv (.t 0), none⟩,
      ⟨(some 77), .sub none (.t 76) (some (.v (.int .i64 1))) none, none⟩,
      ⟨(some 0), .mv (.t 77), none⟩])
    (.seq
    (.seq
    (.reg 89 none [
      ⟨(some 78), .mv (.t 0), none⟩,
      ⟨(some 79), .bin false .neq (.t 78) (.v (.string ⟨#[]⟩)), none⟩,
      ⟨(some 80), .mv (.t 79), none⟩,
      ⟨(some 81), .mv (.t 0), some (80, true)⟩,
      ⟨(some 82), .index (.t 81) (.v (.int .i64 0)), some (80, true)⟩,
      ⟨(some 83), .bin false .eql (.t 82) (.v (.int .u8 43)), some (80, true)⟩,
      ⟨(some 84), .mv (.t 83), some (80, true)⟩,
      ⟨(some 85), .mv (.t 0), some (84, false)⟩,
      ⟨(some 86), .index (.t 85) (.v (.int .i64 0)), some (84, false)⟩,
      ⟨(some 87), .bin false .eql (.t 86) (.v (.int .u8 45)), some (84, false)⟩,
      ⟨(some 88), .pick (.t 84) (.v (.bool true)) (.t 87), some (80, true)⟩,
      ⟨(some 89), .pick (.t 80) (.t 88) (.v (.bool false)), none⟩])
    (.cond (.t 89)
      (.reg 0 (some [0, 1, 2, 3, 4, 5, 6, 7]) [
        ⟨(some 90), .mv (.t 0), none⟩,
        ⟨(some 91), .index (.t 90) (.v (.int .i64 0)), none⟩,
        ⟨(some 92), .bin false .eql (.t 91) (.v (.int .u8 45)), none⟩,
        ⟨(some 93), .mv (.t 0), none⟩,
        ⟨(some 94), .sub none (.t 93) (some (.v (.int .i64 1))) none, none⟩,
        ⟨(some 95), .faddr 5 (.t 6), none⟩,
        ⟨none, .store 1 (.t 95) (.t 92), none⟩,
        ⟨(some 0), .mv (.t 94), none⟩])
      .skip))
    (.canon [] [0, 4, 6, 7] (.sub 3 decimal_read_b3))))
    .skip))
  (.canon [] [0, 4, 6, 7] (.exit 0)))
def decimal_read_b4 : IQ :=
  (.seq
  (.reg 12 none [
    ⟨(some 110), .faddr 1 (.t 6), none⟩,
    ⟨(some 111), .load none (.t 110), none⟩,
    ⟨(some 112), .mv (.t 7), none⟩,
    ⟨(some 113), .bin false .add (.t 111) (.t 112), none⟩,
    ⟨(some 12), .mv (.t 113), none⟩])
  (.seq
  (.reg 0 none [
    ⟨(some 114), .mv (.t 12), none⟩,
    ⟨(some 115), .call 52 [(.t 114), (.v (.string ⟨#[48]⟩))], none⟩,
    ⟨(some 116), .faddr 2 (.t 6), none⟩,
    ⟨none, .store 1 (.t 116) (.t 115), none⟩])
  (.seq
  (.reg 0 none [
    ⟨(some 117), .faddr 1 (.t 6), none⟩,
    ⟨(some 118), .load none (.t 117), none⟩,
    ⟨(some 119), .lenS (.t 118), none⟩,
    ⟨(some 120), .mv (.t 12), none⟩,
    ⟨(some 121), .lenS (.t 120), none⟩,
    ⟨(some 122), .faddr 2 (.t 6), none⟩,
    ⟨(some 123), .load none (.t 122), none⟩,
    ⟨(some 124), .lenS (.t 123), none⟩,
    ⟨(some 125), .bin false .sub (.t 121) (.t 124), none⟩,
    ⟨(some 126), .bin false .sub (.t 119) (.t 125), none⟩,
    ⟨(some 127), .faddr 3 (.t 6), none⟩,
    ⟨none, .store 1 (.t 127) (.t 126), none⟩])
  (.seq
  (.reg 0 none [
    ⟨(some 128), .faddr 2 (.t 6), none⟩,
    ⟨(some 129), .load none (.t 128), none⟩,
    ⟨(some 130), .call 49 [(.t 129), (.v (.string ⟨#[48]⟩))], none⟩,
    ⟨(some 131), .faddr 2 (.t 6), none⟩,
    ⟨none, .store 1 (.t 131) (.t 130), none⟩])
  (.seq
  (.seq
  (.reg 134 none [
    ⟨(some 132), .faddr 6 (.t 6), none⟩,
    ⟨(some 133), .load none (.t 132), none⟩,
    ⟨(some 134), .bin false .eql (.t 133) (.v (.string ⟨#[]⟩)), none⟩])
  (.cond (.t 134)
    (.reg 0 none [
      ⟨(some 135), .faddr 5 (.t 6), none⟩,
      ⟨none, .store 1 (.t 135) (.v (.bool false)), none⟩])
    .skip))
  (.seq
  (.reg 5 none [
    ⟨(some 136), .load (some 7) (.t 6), none⟩,
    ⟨(some 137), .mv (.t 0), none⟩,
    ⟨(some 138), .bin false .eql (.t 137) (.v (.string ⟨#[]⟩)), none⟩,
    ⟨none, .store 7 (.t 4) (.t 136), none⟩,
    ⟨(some 5), .mv (.t 138), none⟩])
  (.canon [] [4, 5] .ret)))))))
def decimal_read_q : IQ :=
  (.seq
  (.reg 5 none [
    ⟨(some 4), .alloc 58 [.bool false, .string ⟨#[]⟩, .string ⟨#[]⟩, .int .i64 0, .bool false, .bool false, .string ⟨#[]⟩], none⟩,
    ⟨(some 5), .mv (.v (.bool false)), none⟩])
  (.seq
  (.reg 0 none [
    ⟨(some 13), .build [.bool false, .string ⟨#[]⟩, .string ⟨#[]⟩, .int .i64 0, .bool false, .bool false, .string ⟨#[]⟩] [(4, 1, (.v (.bool true)))], none⟩,
    ⟨(some 6), .alloc 58 [.bool false, .string ⟨#[]⟩, .string ⟨#[]⟩, .int .i64 0, .bool false, .bool false, .string ⟨#[]⟩], none⟩,
    ⟨none, .store 7 (.t 6) (.t 13), none⟩])
  (.seq
  (.reg 7 none [
    ⟨(some 7), .mv (.v (.string ⟨#[]⟩)), none⟩])
  (.seq
  (.seq
  (.reg 14 none [
    ⟨(some 14), .mv (.t 1), none⟩])
  (.block 0
    (.seq
    (.block 4
      (.seq
      (.block 3
        (.seq
        (.block 2
          (.seq
          (.block 1
            (.seq
            (.seq
            (.seq
            (.reg 15 none [
              ⟨(some 16), .bin false .eql (.t 14) (.v (.int .i64 0)), none⟩,
              ⟨(some 15), .mv (.t 16), none⟩])
            (.cond (.t 15)
              (.exit 1)
              .skip))
            (.seq
            (.seq
            (.reg 17 none [
              ⟨(some 18), .bin false .eql (.t 14) (.v (.int .i64 1)), none⟩,
              ⟨(some 17), .mv (.t 18), none⟩])
            (.cond (.t 17)
              (.exit 2)
              .skip))
            (.seq
            (.seq
            (.reg 19 none [
              ⟨(some 20), .bin false .eql (.t 14) (.v (.int .i64 2)), none⟩,
              ⟨(some 19), .mv (.t 20), none⟩])
            (.cond (.t 19)
              (.exit 3)
              .skip))
            (.seq
            (.reg 21 none [
              ⟨(some 22), .bin false .eql (.t 14) (.v (.int .i64 3)), none⟩,
              ⟨(some 21), .mv (.t 22), none⟩])
            (.cond (.t 21)
              (.exit 4)
              .skip)))))
            (.exit 0)))
          (.reg 0 none [
            ⟨(some 24), .mv (.t 0), none⟩,
            ⟨(some 25), .call 50 [(.t 24), (.v (.string ⟨#[45]⟩))], none⟩,
            ⟨(some 23), .mv (.t 25), none⟩,
            ⟨(some 26), .extract (.t 23) 0, none⟩,
            ⟨(some 27), .extract (.t 23) 1, none⟩,
            ⟨(some 0), .mv (.t 26), none⟩,
            ⟨(some 28), .faddr 0 (.t 6), none⟩,
            ⟨none, .store 1 (.t 28) (.t 27), none⟩])))
        (.canon [] [0, 4, 6, 7] (.sub 0 decimal_read_b0))))
      (.canon [] [0, 4, 6, 7] (.sub 1 decimal_read_b1))))
    (.canon [] [0, 4, 6, 7] (.sub 2 decimal_read_b2)))))
  (.canon [] [0, 4, 6, 7] (.sub 4 decimal_read_b4))))))
theorem decimal_read_chk : chk Tryd.prog 36 [] = some (decimal_read_q.erase, [.cell 4 (some 7), .tmp 5], 139) := by kernel_rfl
noncomputable def decimal_read_p0 (s : ByteArray) : Option (Bool ⊕ (ByteArray × ByteArray)) :=
  (decimal_run_s s).bind fun r2 =>
  gd ((decide ((1 : Int) < r2)) = true → (decide (r2 = (0 : Int))) = false → 0 ≤ (0 : Int) ∧ (0 : Int) < s.size) <|
  bif ((decide (r2 = (0 : Int))) || ((decide ((1 : Int) < r2)) && (decide ((bAt s (0 : Int)) = (48 : Int))))) then (
    some (.inl false))
  else (
    gd (0 ≤ (0 : Int) ∧ (0 : Int) ≤ r2 ∧ r2 ≤ s.size) <|
    gd (0 ≤ r2 ∧ r2 ≤ (s.size : Int) ∧ (s.size : Int) ≤ s.size) <|
    some (.inr ((s.extract (Int.toNat r2) s.size), (s.extract 0 (Int.toNat r2)))))
noncomputable def decimal_read_p1 (s : ByteArray) (behind : ByteArray) (n_plain : Bool) : Option (Bool ⊕ (ByteArray × ByteArray × Bool)) :=
  (strings_CutPrefix_s s (⟨#[46]⟩ : ByteArray)).bind fun r4 =>
  bif r4.2 then (
    (decimal_run_s r4.1).bind fun r5 =>
    bif decide (r5 = (0 : Int)) then (
      some (.inl false))
    else (
      gd (0 ≤ (0 : Int) ∧ (0 : Int) ≤ r5 ∧ r5 ≤ r4.1.size) <|
      gd (0 ≤ r5 ∧ r5 ≤ (r4.1.size : Int) ∧ (r4.1.size : Int) ≤ r4.1.size) <|
      some (.inr ((r4.1.extract (Int.toNat r5) r4.1.size), (r4.1.extract 0 (Int.toNat r5)), false))))
  else (
    some (.inr (s, behind, n_plain)))
noncomputable def decimal_read_p3 (s : ByteArray) : Option (Bool ⊕ (ByteArray × Bool × ByteArray)) :=
  bif decide (s = (⟨#[]⟩ : ByteArray)) then (
    some (.inl false))
  else (
    (decimal_run_s s).bind fun r7 =>
    bif (!decide (r7 = (s.size : Int))) then (
      some (.inl false))
    else (
      (strings_TrimLeft_s s (⟨#[48]⟩ : ByteArray)).bind fun r8 =>
      some (.inr ((⟨#[]⟩ : ByteArray), false, r8))))
noncomputable def decimal_read_p2 (s : ByteArray) (n_plain : Bool) (n_down : Bool) (n_exp : ByteArray) : Option ((Bool × Bool) ⊕ (ByteArray × Bool × Bool × ByteArray)) :=
  gd ((!decide (s = (⟨#[]⟩ : ByteArray))) = true → 0 ≤ (0 : Int) ∧ (0 : Int) < s.size) <|
  bif ((!decide (s = (⟨#[]⟩ : ByteArray))) && (decide ((bitOr .u8 (bAt s (0 : Int)) (32 : Int)) = (101 : Int)))) then (
    gd (0 ≤ (1 : Int) ∧ (1 : Int) ≤ (s.size : Int) ∧ (s.size : Int) ≤ s.size) <|
    gd ((!decide ((s.extract 1 s.size) = (⟨#[]⟩ : ByteArray))) = true → 0 ≤ (0 : Int) ∧ (0 : Int) < (s.extract 1 s.size).size) <|
    gd ((decide ((bAt (s.extract 1 s.size) (0 : Int)) = (43 : Int))) = false → (!decide ((s.extract 1 s.size) = (⟨#[]⟩ : ByteArray))) = true → 0 ≤ (0 : Int) ∧ (0 : Int) < (s.extract 1 s.size).size) <|
    bif ((!decide ((s.extract 1 s.size) = (⟨#[]⟩ : ByteArray))) && ((decide ((bAt (s.extract 1 s.size) (0 : Int)) = (43 : Int))) || (decide ((bAt (s.extract 1 s.size) (0 : Int)) = (45 : Int))))) then (
      gd (0 ≤ (0 : Int) ∧ (0 : Int) < (s.extract 1 s.size).size) <|
      gd (0 ≤ (1 : Int) ∧ (1 : Int) ≤ ((s.extract 1 s.size).size : Int) ∧ ((s.extract 1 s.size).size : Int) ≤ (s.extract 1 s.size).size) <|
      (decimal_read_p3 ((s.extract 1 s.size).extract 1 (s.extract 1 s.size).size)).bind fun o9 => (Sum.elim (fun (o9_0 : Bool) =>
        some (.inl (o9_0, decide ((bAt (s.extract 1 s.size) (0 : Int)) = (45 : Int))))) (fun (o9_1 : ByteArray × Bool × ByteArray) =>
        some (.inr (o9_1.1, o9_1.2.1, decide ((bAt (s.extract 1 s.size) (0 : Int)) = (45 : Int)), o9_1.2.2)))) o9)
    else (
      (decimal_read_p3 (s.extract 1 s.size)).bind fun o10 => (Sum.elim (fun (o10_0 : Bool) =>
        some (.inl (o10_0, n_down))) (fun (o10_1 : ByteArray × Bool × ByteArray) =>
        some (.inr (o10_1.1, o10_1.2.1, n_down, o10_1.2.2)))) o10))
  else (
    some (.inr (s, n_plain, n_down, n_exp)))
noncomputable def decimal_read_p4 (s : ByteArray) (behind : ByteArray) (n_whole : ByteArray) (n_down : Bool) (n_exp : ByteArray) : Option (Bool × ByteArray × Int × Bool) :=
  gd (n_whole.size + behind.size ≤ 9223372036854775807) <|
  (strings_TrimLeft_s (n_whole ++ behind) (⟨#[48]⟩ : ByteArray)).bind fun r12 =>
  gd (InI64 (((n_whole ++ behind).size : Int) - (r12.size : Int))) <|
  gd (InI64 ((n_whole.size : Int) - (((n_whole ++ behind).size : Int) - (r12.size : Int)))) <|
  (strings_TrimRight_s r12 (⟨#[48]⟩ : ByteArray)).bind fun r13 =>
  bif decide (n_exp = (⟨#[]⟩ : ByteArray)) then (
    some (decide (s = (⟨#[]⟩ : ByteArray)), r13, ((n_whole.size : Int) - (((n_whole ++ behind).size : Int) - (r12.size : Int))), false))
  else (
    some (decide (s = (⟨#[]⟩ : ByteArray)), r13, ((n_whole.size : Int) - (((n_whole ++ behind).size : Int) - (r12.size : Int))), n_down))
noncomputable def decimal_read_s (s : ByteArray) (part : Int) : Option (decimal_number × Bool) :=
  bif decide (part = (0 : Int)) then (
    (strings_CutPrefix_s s (⟨#[45]⟩ : ByteArray)).bind fun r1 =>
    (decimal_read_p0 r1.1).bind fun o3 => (Sum.elim (fun (o3_0 : Bool) =>
      some ((⟨r1.2, (⟨#[]⟩ : ByteArray), (⟨#[]⟩ : ByteArray), (0 : Int), true, false, (⟨#[]⟩ : ByteArray)⟩ : decimal_number), o3_0)) (fun (o3_1 : ByteArray × ByteArray) =>
      (decimal_read_p1 o3_1.1 (⟨#[]⟩ : ByteArray) true).bind fun o6 => (Sum.elim (fun (o6_0 : Bool) =>
        some ((⟨r1.2, o3_1.2, (⟨#[]⟩ : ByteArray), (0 : Int), true, false, (⟨#[]⟩ : ByteArray)⟩ : decimal_number), o6_0)) (fun (o6_1 : ByteArray × ByteArray × Bool) =>
        (decimal_read_p2 o6_1.1 o6_1.2.2 false (⟨#[]⟩ : ByteArray)).bind fun o11 => (Sum.elim (fun (o11_0 : Bool × Bool) =>
          some ((⟨r1.2, o3_1.2, (⟨#[]⟩ : ByteArray), (0 : Int), o6_1.2.2, o11_0.2, (⟨#[]⟩ : ByteArray)⟩ : decimal_number), o11_0.1)) (fun (o11_1 : ByteArray × Bool × Bool × ByteArray) =>
          (decimal_read_p4 o11_1.1 o6_1.2.1 o3_1.2 o11_1.2.2.1 o11_1.2.2.2).bind fun o14 =>
          some ((⟨r1.2, o3_1.2, o14.2.1, o14.2.2.1, o11_1.2.1, o14.2.2.2, o11_1.2.2.2⟩ : decimal_number), o14.1))) o11)) o6)) o3)
  else (
    bif decide (part = (1 : Int)) then (
      (decimal_read_p0 s).bind fun o15 => (Sum.elim (fun (o15_0 : Bool) =>
        some ((⟨false, (⟨#[]⟩ : ByteArray), (⟨#[]⟩ : ByteArray), (0 : Int), true, false, (⟨#[]⟩ : ByteArray)⟩ : decimal_number), o15_0)) (fun (o15_1 : ByteArray × ByteArray) =>
        (decimal_read_p1 o15_1.1 (⟨#[]⟩ : ByteArray) true).bind fun o16 => (Sum.elim (fun (o16_0 : Bool) =>
          some ((⟨false, o15_1.2, (⟨#[]⟩ : ByteArray), (0 : Int), true, false, (⟨#[]⟩ : ByteArray)⟩ : decimal_number), o16_0)) (fun (o16_1 : ByteArray × ByteArray × Bool) =>
          (decimal_read_p2 o16_1.1 o16_1.2.2 false (⟨#[]⟩ : ByteArray)).bind fun o17 => (Sum.elim (fun (o17_0 : Bool × Bool) =>
            some ((⟨false, o15_1.2, (⟨#[]⟩ : ByteArray), (0 : Int), o16_1.2.2, o17_0.2, (⟨#[]⟩ : ByteArray)⟩ : decimal_number), o17_0.1)) (fun (o17_1 : ByteArray × Bool × Bool × ByteArray) =>
            (decimal_read_p4 o17_1.1 o16_1.2.1 o15_1.2 o17_1.2.2.1 o17_1.2.2.2).bind fun o18 =>
            some ((⟨false, o15_1.2, o18.2.1, o18.2.2.1, o17_1.2.1, o18.2.2.2, o17_1.2.2.2⟩ : decimal_number), o18.1))) o17)) o16)) o15)
    else (
      bif decide (part = (2 : Int)) then (
        (decimal_read_p1 s (⟨#[]⟩ : ByteArray) true).bind fun o19 => (Sum.elim (fun (o19_0 : Bool) =>
          some ((⟨false, (⟨#[]⟩ : ByteArray), (⟨#[]⟩ : ByteArray), (0 : Int), true, false, (⟨#[]⟩ : ByteArray)⟩ : decimal_number), o19_0)) (fun (o19_1 : ByteArray × ByteArray × Bool) =>
          (decimal_read_p2 o19_1.1 o19_1.2.2 false (⟨#[]⟩ : ByteArray)).bind fun o20 => (Sum.elim (fun (o20_0 : Bool × Bool) =>
            some ((⟨false, (⟨#[]⟩ : ByteArray), (⟨#[]⟩ : ByteArray), (0 : Int), o19_1.2.2, o20_0.2, (⟨#[]⟩ : ByteArray)⟩ : decimal_number), o20_0.1)) (fun (o20_1 : ByteArray × Bool × Bool × ByteArray) =>
            (decimal_read_p4 o20_1.1 o19_1.2.1 (⟨#[]⟩ : ByteArray) o20_1.2.2.1 o20_1.2.2.2).bind fun o21 =>
            some ((⟨false, (⟨#[]⟩ : ByteArray), o21.2.1, o21.2.2.1, o20_1.2.1, o21.2.2.2, o20_1.2.2.2⟩ : decimal_number), o21.1))) o20)) o19)
      else (
        bif decide (part = (3 : Int)) then (
          (decimal_read_p2 s true false (⟨#[]⟩ : ByteArray)).bind fun o22 => (Sum.elim (fun (o22_0 : Bool × Bool) =>
            some ((⟨false, (⟨#[]⟩ : ByteArray), (⟨#[]⟩ : ByteArray), (0 : Int), true, o22_0.2, (⟨#[]⟩ : ByteArray)⟩ : decimal_number), o22_0.1)) (fun (o22_1 : ByteArray × Bool × Bool × ByteArray) =>
            (decimal_read_p4 o22_1.1 (⟨#[]⟩ : ByteArray) (⟨#[]⟩ : ByteArray) o22_1.2.2.1 o22_1.2.2.2).bind fun o23 =>
            some ((⟨false, (⟨#[]⟩ : ByteArray), o23.2.1, o23.2.2.1, o22_1.2.1, o23.2.2.2, o22_1.2.2.2⟩ : decimal_number), o23.1))) o22)
        else (
          (decimal_read_p4 s (⟨#[]⟩ : ByteArray) (⟨#[]⟩ : ByteArray) false (⟨#[]⟩ : ByteArray)).bind fun o24 =>
          some ((⟨false, (⟨#[]⟩ : ByteArray), o24.2.1, o24.2.2.1, true, o24.2.2.2, (⟨#[]⟩ : ByteArray)⟩ : decimal_number), o24.1)))))
noncomputable def decimal_read_G : Nat → Option CQ := tblQ [(50, strings_CutPrefix_w), (51, decimal_run_w), (52, strings_TrimLeft_w), (49, strings_TrimRight_w)]
theorem decimal_read_Gok : ∀ f C, decimal_read_G f = some C → ValidQ Tryd.prog f C := tblQ_valid ⟨strings_CutPrefix_ok, decimal_run_ok, strings_TrimLeft_ok, strings_TrimRight_ok, trivial⟩
def decimal_read_d0 := (dQS (dCons (dSl 0 (dVC (dCO dS))) (dCons (dSl 4 (dVC (dCO (dH 0 0)))) (dCons (dSl 6 (dVC (dCO (dH 1 0)))) (dCons (dSl 7 (dVC (dCO dS))) dNil)))) (dCons (dCells 58 (dCons dB (dCons dS (dCons dS (dCons (dI .i64) (dCons dB (dCons dB (dCons dS dNil)))))))) (dCons (dCells 58 (dCons dB (dCons dS (dCons dS (dCons (dI .i64) (dCons dB (dCons dB (dCons dS dNil)))))))) dNil)))
noncomputable def decimal_read_l0 : SubQ := fun S R kn kx kr => (Dec.d decimal_read_d0 S).bind fun x => (decimal_read_p0 x.1.1).bind fun r => (Sum.elim (fun (r_0 : Bool) => kr ⟨[(4, [], .c (.o (.hd 0 0))), (5, [], .c (.o (.val (.bool r_0))))], [], [.cells 58 [.val (.bool x.2.2.1.1), .val (.string x.2.2.1.2.1), .val (.string x.2.2.1.2.2.1), .val (.int .i64 x.2.2.1.2.2.2.1), .val (.bool x.2.2.1.2.2.2.2.1), .val (.bool x.2.2.1.2.2.2.2.2.1), .val (.string x.2.2.1.2.2.2.2.2.2.1)]]⟩) (fun (r_1 : ByteArray × ByteArray) => kn ⟨[(0, [], .c (.o (.val (.string r_1.1)))), (4, [], .c (.o (.hd 0 0))), (6, [], .c (.o (.hd 1 0))), (7, [], .c (.o (.val (.string x.1.2.2.2.1))))], [], [.cells 58 [.val (.bool x.2.1.1), .val (.string x.2.1.2.1), .val (.string x.2.1.2.2.1), .val (.int .i64 x.2.1.2.2.2.1), .val (.bool x.2.1.2.2.2.2.1), .val (.bool x.2.1.2.2.2.2.2.1), .val (.string x.2.1.2.2.2.2.2.2.1)], .cells 58 [.val (.bool x.2.2.1.1), .val (.string r_1.2), .val (.string x.2.2.1.2.2.1), .val (.int .i64 x.2.2.1.2.2.2.1), .val (.bool x.2.2.1.2.2.2.2.1), .val (.bool x.2.2.1.2.2.2.2.2.1), .val (.string x.2.2.1.2.2.2.2.2.2.1)]]⟩)) r
def decimal_read_d1 := (dQS (dCons (dSl 0 (dVC (dCO dS))) (dCons (dSl 4 (dVC (dCO (dH 0 0)))) (dCons (dSl 6 (dVC (dCO (dH 1 0)))) (dCons (dSl 7 (dVC (dCO dS))) dNil)))) (dCons (dCells 58 (dCons dB (dCons dS (dCons dS (dCons (dI .i64) (dCons dB (dCons dB (dCons dS dNil)))))))) (dCons (dCells 58 (dCons dB (dCons dS (dCons dS (dCons (dI .i64) (dCons dB (dCons dB (dCons dS dNil)))))))) dNil)))
noncomputable def decimal_read_l1 : SubQ := fun S R kn kx kr => (Dec.d decimal_read_d1 S).bind fun x => (decimal_read_p1 x.1.1 x.1.2.2.2.1 x.2.2.1.2.2.2.2.1).bind fun r => (Sum.elim (fun (r_0 : Bool) => kr ⟨[(4, [], .c (.o (.hd 0 0))), (5, [], .c (.o (.val (.bool r_0))))], [], [.cells 58 [.val (.bool x.2.2.1.1), .val (.string x.2.2.1.2.1), .val (.string x.2.2.1.2.2.1), .val (.int .i64 x.2.2.1.2.2.2.1), .val (.bool x.2.2.1.2.2.2.2.1), .val (.bool x.2.2.1.2.2.2.2.2.1), .val (.string x.2.2.1.2.2.2.2.2.2.1)]]⟩) (fun (r_1 : ByteArray × ByteArray × Bool) => kn ⟨[(0, [], .c (.o (.val (.string r_1.1)))), (4, [], .c (.o (.hd 0 0))), (6, [], .c (.o (.hd 1 0))), (7, [], .c (.o (.val (.string r_1.2.1))))], [], [.cells 58 [.val (.bool x.2.1.1), .val (.string x.2.1.2.1), .val (.string x.2.1.2.2.1), .val (.int .i64 x.2.1.2.2.2.1), .val (.bool x.2.1.2.2.2.2.1), .val (.bool x.2.1.2.2.2.2.2.1), .val (.string x.2.1.2.2.2.2.2.2.1)], .cells 58 [.val (.bool x.2.2.1.1), .val (.string x.2.2.1.2.1), .val (.string x.2.2.1.2.2.1), .val (.int .i64 x.2.2.1.2.2.2.1), .val (.bool r_1.2.2), .val (.bool x.2.2.1.2.2.2.2.2.1), .val (.string x.2.2.1.2.2.2.2.2.2.1)]]⟩)) r
def decimal_read_d3 := (dQS (dCons (dSl 0 (dVC (dCO dS))) (dCons (dSl 4 (dVC (dCO (dH 0 0)))) (dCons (dSl 6 (dVC (dCO (dH 1 0)))) (dCons (dSl 7 (dVC (dCO dS))) dNil)))) (dCons (dCells 58 (dCons dB (dCons dS (dCons dS (dCons (dI .i64) (dCons dB (dCons dB (dCons dS dNil)))))))) (dCons (dCells 58 (dCons dB (dCons dS (dCons dS (dCons (dI .i64) (dCons dB (dCons dB (dCons dS dNil)))))))) dNil)))
noncomputable def decimal_read_l3 : SubQ := fun S R kn kx kr => (Dec.d decimal_read_d3 S).bind fun x => (decimal_read_p3 x.1.1).bind fun r => (Sum.elim (fun (r_0 : Bool) => kr ⟨[(4, [], .c (.o (.hd 0 0))), (5, [], .c (.o (.val (.bool r_0))))], [], [.cells 58 [.val (.bool x.2.2.1.1), .val (.string x.2.2.1.2.1), .val (.string x.2.2.1.2.2.1), .val (.int .i64 x.2.2.1.2.2.2.1), .val (.bool x.2.2.1.2.2.2.2.1), .val (.bool x.2.2.1.2.2.2.2.2.1), .val (.string x.2.2.1.2.2.2.2.2.2.1)]]⟩) (fun (r_1 : ByteArray × Bool × ByteArray) => kn ⟨[(0, [], .c (.o (.val (.string r_1.1)))), (4, [], .c (.o (.hd 0 0))), (6, [], .c (.o (.hd 1 0))), (7, [], .c (.o (.val (.string x.1.2.2.2.1))))], [], [.cells 58 [.val (.bool x.2.1.1), .val (.string x.2.1.2.1), .val (.string x.2.1.2.2.1), .val (.int .i64 x.2.1.2.2.2.1), .val (.bool x.2.1.2.2.2.2.1), .val (.bool x.2.1.2.2.2.2.2.1), .val (.string x.2.1.2.2.2.2.2.2.1)], .cells 58 [.val (.bool x.2.2.1.1), .val (.string x.2.2.1.2.1), .val (.string x.2.2.1.2.2.1), .val (.int .i64 x.2.2.1.2.2.2.1), .val (.bool r_1.2.1), .val (.bool x.2.2.1.2.2.2.2.2.1), .val (.string r_1.2.2)]]⟩)) r
def decimal_read_d2 := (dQS (dCons (dSl 0 (dVC (dCO dS))) (dCons (dSl 4 (dVC (dCO (dH 0 0)))) (dCons (dSl 6 (dVC (dCO (dH 1 0)))) (dCons (dSl 7 (dVC (dCO dS))) dNil)))) (dCons (dCells 58 (dCons dB (dCons dS (dCons dS (dCons (dI .i64) (dCons dB (dCons dB (dCons dS dNil)))))))) (dCons (dCells 58 (dCons dB (dCons dS (dCons dS (dCons (dI .i64) (dCons dB (dCons dB (dCons dS dNil)))))))) dNil)))
noncomputable def decimal_read_l2 : SubQ := fun S R kn kx kr => (Dec.d decimal_read_d2 S).bind fun x => (decimal_read_p2 x.1.1 x.2.2.1.2.2.2.2.1 x.2.2.1.2.2.2.2.2.1 x.2.2.1.2.2.2.2.2.2.1).bind fun r => (Sum.elim (fun (r_0 : Bool × Bool) => kr ⟨[(4, [], .c (.o (.hd 0 0))), (5, [], .c (.o (.val (.bool r_0.1))))], [], [.cells 58 [.val (.bool x.2.2.1.1), .val (.string x.2.2.1.2.1), .val (.string x.2.2.1.2.2.1), .val (.int .i64 x.2.2.1.2.2.2.1), .val (.bool x.2.2.1.2.2.2.2.1), .val (.bool r_0.2), .val (.string x.2.2.1.2.2.2.2.2.2.1)]]⟩) (fun (r_1 : ByteArray × Bool × Bool × ByteArray) => kx 0 ⟨[(0, [], .c (.o (.val (.string r_1.1)))), (4, [], .c (.o (.hd 0 0))), (6, [], .c (.o (.hd 1 0))), (7, [], .c (.o (.val (.string x.1.2.2.2.1))))], [], [.cells 58 [.val (.bool x.2.1.1), .val (.string x.2.1.2.1), .val (.string x.2.1.2.2.1), .val (.int .i64 x.2.1.2.2.2.1), .val (.bool x.2.1.2.2.2.2.1), .val (.bool x.2.1.2.2.2.2.2.1), .val (.string x.2.1.2.2.2.2.2.2.1)], .cells 58 [.val (.bool x.2.2.1.1), .val (.string x.2.2.1.2.1), .val (.string x.2.2.1.2.2.1), .val (.int .i64 x.2.2.1.2.2.2.1), .val (.bool r_1.2.1), .val (.bool r_1.2.2.1), .val (.string r_1.2.2.2)]]⟩)) r
def decimal_read_d4 := (dQS (dCons (dSl 0 (dVC (dCO dS))) (dCons (dSl 4 (dVC (dCO (dH 0 0)))) (dCons (dSl 6 (dVC (dCO (dH 1 0)))) (dCons (dSl 7 (dVC (dCO dS))) dNil)))) (dCons (dCells 58 (dCons dB (dCons dS (dCons dS (dCons (dI .i64) (dCons dB (dCons dB (dCons dS dNil)))))))) (dCons (dCells 58 (dCons dB (dCons dS (dCons dS (dCons (dI .i64) (dCons dB (dCons dB (dCons dS dNil)))))))) dNil)))
noncomputable def decimal_read_l4 : SubQ := fun S R kn kx kr => (Dec.d decimal_read_d4 S).bind fun x => (decimal_read_p4 x.1.1 x.1.2.2.2.1 x.2.2.1.2.1 x.2.2.1.2.2.2.2.2.1 x.2.2.1.2.2.2.2.2.2.1).bind fun r => kr ⟨[(4, [], .c (.o (.hd 0 0))), (5, [], .c (.o (.val (.bool r.1))))], [], [.cells 58 [.val (.bool x.2.2.1.1), .val (.string x.2.2.1.2.1), .val (.string r.2.1), .val (.int .i64 r.2.2.1), .val (.bool x.2.2.1.2.2.2.2.1), .val (.bool r.2.2.2), .val (.string x.2.2.1.2.2.2.2.2.2.1)]]⟩
noncomputable def decimal_read_L : Nat → SubQ := tblL [(0, decimal_read_l0), (1, decimal_read_l1), (3, decimal_read_l3), (2, decimal_read_l2), (4, decimal_read_l4)]
theorem decimal_read_p0_eq (s : ByteArray) (behind : ByteArray) (res_minus : Bool) (res_whole : ByteArray) (res_digits : ByteArray) (res_point : Int) (res_plain : Bool) (res_down : Bool) (res_exp : ByteArray) (n_minus : Bool) (n_whole : ByteArray) (n_digits : ByteArray) (n_point : Int) (n_plain : Bool) (n_down : Bool) (n_exp : ByteArray) (R : Type) (kn : QS → Option R) (kx : Nat → QS → Option R) (kr : QS → Option R) :
    interpQ decimal_read_L decimal_read_G 0 15 139 decimal_read_b0 ⟨[(0, [], .c (.o (.val (.string s)))), (4, [], .c (.o (.hd 0 0))), (6, [], .c (.o (.hd 1 0))), (7, [], .c (.o (.val (.string behind))))], [], [.cells 58 [.val (.bool res_minus), .val (.string res_whole), .val (.string res_digits), .val (.int .i64 res_point), .val (.bool res_plain), .val (.bool res_down), .val (.string res_exp)], .cells 58 [.val (.bool n_minus), .val (.string n_whole), .val (.string n_digits), .val (.int .i64 n_point), .val (.bool n_plain), .val (.bool n_down), .val (.string n_exp)]]⟩ kn kx kr = (decimal_read_p0 s).bind fun r => (Sum.elim (fun (r_0 : Bool) => kr ⟨[(4, [], .c (.o (.hd 0 0))), (5, [], .c (.o (.val (.bool r_0))))], [], [.cells 58 [.val (.bool n_minus), .val (.string n_whole), .val (.string n_digits), .val (.int .i64 n_point), .val (.bool n_plain), .val (.bool n_down), .val (.string n_exp)]]⟩) (fun (r_1 : ByteArray × ByteArray) => kn ⟨[(0, [], .c (.o (.val (.string r_1.1)))), (4, [], .c (.o (.hd 0 0))), (6, [], .c (.o (.hd 1 0))), (7, [], .c (.o (.val (.string behind))))], [], [.cells 58 [.val (.bool res_minus), .val (.string res_whole), .val (.string res_digits), .val (.int .i64 res_point), .val (.bool res_plain), .val (.bool res_down), .val (.string res_exp)], .cells 58 [.val (.bool n_minus), .val (.string r_1.2), .val (.string n_digits), .val (.int .i64 n_point), .val (.bool n_plain), .val (.bool n_down), .val (.string n_exp)]]⟩)) r := by
  simp only [decimal_read_p0, -eq_self, bind_cond, bind_gd, Option.bind_assoc, Option.bind_some, Sum.elim_inl, Sum.elim_inr, bind_elim]
  kernel_rfl
theorem decimal_read_sub0 : SubOK decimal_read_L decimal_read_G 0 15 139 0 decimal_read_b0 := sub_ok' decimal_read_d0 (fun x R kn kx kr => (decimal_read_p0 x.1.1).bind fun r => (Sum.elim (fun (r_0 : Bool) => kr ⟨[(4, [], .c (.o (.hd 0 0))), (5, [], .c (.o (.val (.bool r_0))))], [], [.cells 58 [.val (.bool x.2.2.1.1), .val (.string x.2.2.1.2.1), .val (.string x.2.2.1.2.2.1), .val (.int .i64 x.2.2.1.2.2.2.1), .val (.bool x.2.2.1.2.2.2.2.1), .val (.bool x.2.2.1.2.2.2.2.2.1), .val (.string x.2.2.1.2.2.2.2.2.2.1)]]⟩) (fun (r_1 : ByteArray × ByteArray) => kn ⟨[(0, [], .c (.o (.val (.string r_1.1)))), (4, [], .c (.o (.hd 0 0))), (6, [], .c (.o (.hd 1 0))), (7, [], .c (.o (.val (.string x.1.2.2.2.1))))], [], [.cells 58 [.val (.bool x.2.1.1), .val (.string x.2.1.2.1), .val (.string x.2.1.2.2.1), .val (.int .i64 x.2.1.2.2.2.1), .val (.bool x.2.1.2.2.2.2.1), .val (.bool x.2.1.2.2.2.2.2.1), .val (.string x.2.1.2.2.2.2.2.2.1)], .cells 58 [.val (.bool x.2.2.1.1), .val (.string r_1.2), .val (.string x.2.2.1.2.2.1), .val (.int .i64 x.2.2.1.2.2.2.1), .val (.bool x.2.2.1.2.2.2.2.1), .val (.bool x.2.2.1.2.2.2.2.2.1), .val (.string x.2.2.1.2.2.2.2.2.2.1)]]⟩)) r) (by kernel_rfl) fun x R kn kx kr => decimal_read_p0_eq x.1.1 x.1.2.2.2.1 x.2.1.1 x.2.1.2.1 x.2.1.2.2.1 x.2.1.2.2.2.1 x.2.1.2.2.2.2.1 x.2.1.2.2.2.2.2.1 x.2.1.2.2.2.2.2.2.1 x.2.2.1.1 x.2.2.1.2.1 x.2.2.1.2.2.1 x.2.2.1.2.2.2.1 x.2.2.1.2.2.2.2.1 x.2.2.1.2.2.2.2.2.1 x.2.2.1.2.2.2.2.2.2.1 R kn kx kr
theorem decimal_read_p1_eq (s : ByteArray) (behind : ByteArray) (res_minus : Bool) (res_whole : ByteArray) (res_digits : ByteArray) (res_point : Int) (res_plain : Bool) (res_down : Bool) (res_exp : ByteArray) (n_minus : Bool) (n_whole : ByteArray) (n_digits : ByteArray) (n_point : Int) (n_plain : Bool) (n_down : Bool) (n_exp : ByteArray) (R : Type) (kn : QS → Option R) (kx : Nat → QS → Option R) (kr : QS → Option R) :
    interpQ decimal_read_L decimal_read_G 0 15 139 decimal_read_b1 ⟨[(0, [], .c (.o (.val (.string s)))), (4, [], .c (.o (.hd 0 0))), (6, [], .c (.o (.hd 1 0))), (7, [], .c (.o (.val (.string behind))))], [], [.cells 58 [.val (.bool res_minus), .val (.string res_whole), .val (.string res_digits), .val (.int .i64 res_point), .val (.bool res_plain), .val (.bool res_down), .val (.string res_exp)], .cells 58 [.val (.bool n_minus), .val (.string n_whole), .val (.string n_digits), .val (.int .i64 n_point), .val (.bool n_plain), .val (.bool n_down), .val (.string n_exp)]]⟩ kn kx kr = (decimal_read_p1 s behind n_plain).bind fun r => (Sum.elim (fun (r_0 : Bool) => kr ⟨[(4, [], .c (.o (.hd 0 0))), (5, [], .c (.o (.val (.bool r_0))))], [], [.cells 58 [.val (.bool n_minus), .val (.string n_whole), .val (.string n_digits), .val (.int .i64 n_point), .val (.bool n_plain), .val (.bool n_down), .val (.string n_exp)]]⟩) (fun (r_1 : ByteArray × ByteArray × Bool) => kn ⟨[(0, [], .c (.o (.val (.string r_1.1)))), (4, [], .c (.o (.hd 0 0))), (6, [], .c (.o (.hd 1 0))), (7, [], .c (.o (.val (.string r_1.2.1))))], [], [.cells 58 [.val (.bool res_minus), .val (.string res_whole), .val (.string res_digits), .val (.int .i64 res_point), .val (.bool res_plain), .val (.bool res_down), .val (.string res_exp)], .cells 58 [.val (.bool n_minus), .val (.string n_whole), .val (.string n_digits), .val (.int .i64 n_point), .val (.bool r_1.2.2), .val (.bool n_down), .val (.string n_exp)]]⟩)) r := by
  simp only [decimal_read_p1, -eq_self, bind_cond, bind_gd, Option.bind_assoc, Option.bind_some, Sum.elim_inl, Sum.elim_inr, bind_elim]
  kernel_rfl
theorem decimal_read_sub1 : SubOK decimal_read_L decimal_read_G 0 15 139 1 decimal_read_b1 := sub_ok' decimal_read_d1 (fun x R kn kx kr => (decimal_read_p1 x.1.1 x.1.2.2.2.1 x.2.2.1.2.2.2.2.1).bind fun r => (Sum.elim (fun (r_0 : Bool) => kr ⟨[(4, [], .c (.o (.hd 0 0))), (5, [], .c (.o (.val (.bool r_0))))], [], [.cells 58 [.val (.bool x.2.2.1.1), .val (.string x.2.2.1.2.1), .val (.string x.2.2.1.2.2.1), .val (.int .i64 x.2.2.1.2.2.2.1), .val (.bool x.2.2.1.2.2.2.2.1), .val (.bool x.2.2.1.2.2.2.2.2.1), .val (.string x.2.2.1.2.2.2.2.2.2.1)]]⟩) (fun (r_1 : ByteArray × ByteArray × Bool) => kn ⟨[(0, [], .c (.o (.val (.string r_1.1)))), (4, [], .c (.o (.hd 0 0))), (6, [], .c (.o (.hd 1 0))), (7, [], .c (.o (.val (.string r_1.2.1))))], [], [.cells 58 [.val (.bool x.2.1.1), .val (.string x.2.1.2.1), .val (.string x.2.1.2.2.1), .val (.int .i64 x.2.1.2.2.2.1), .val (.bool x.2.1.2.2.2.2.1), .val (.bool x.2.1.2.2.2.2.2.1), .val (.string x.2.1.2.2.2.2.2.2.1)], .cells 58 [.val (.bool x.2.2.1.1), .val (.string x.2.2.1.2.1), .val (.string x.2.2.1.2.2.1), .val (.int .i64 x.2.2.1.2.2.2.1), .val (.bool r_1.2.2), .val (.bool x.2.2.1.2.2.2.2.2.1), .val (.string x.2.2.1.2.2.2.2.2.2.1)]]⟩)) r) (by kernel_rfl) fun x R kn kx kr => decimal_read_p1_eq x.1.1 x.1.2.2.2.1 x.2.1.1 x.2.1.2.1 x.2.1.2.2.1 x.2.1.2.2.2.1 x.2.1.2.2.2.2.1 x.2.1.2.2.2.2.2.1 x.2.1.2.2.2.2.2.2.1 x.2.2.1.1 x.2.2.1.2.1 x.2.2.1.2.2.1 x.2.2.1.2.2.2.1 x.2.2.1.2.2.2.2.1 x.2.2.1.2.2.2.2.2.1 x.2.2.1.2.2.2.2.2.2.1 R kn kx kr
theorem decimal_read_p3_eq (s : ByteArray) (behind : ByteArray) (res_minus : Bool) (res_whole : ByteArray) (res_digits : ByteArray) (res_point : Int) (res_plain : Bool) (res_down : Bool) (res_exp : ByteArray) (n_minus : Bool) (n_whole : ByteArray) (n_digits : ByteArray) (n_point : Int) (n_plain : Bool) (n_down : Bool) (n_exp : ByteArray) (R : Type) (kn : QS → Option R) (kx : Nat → QS → Option R) (kr : QS → Option R) :
    interpQ decimal_read_L decimal_read_G 0 15 139 decimal_read_b3 ⟨[(0, [], .c (.o (.val (.string s)))), (4, [], .c (.o (.hd 0 0))), (6, [], .c (.o (.hd 1 0))), (7, [], .c (.o (.val (.string behind))))], [], [.cells 58 [.val (.bool res_minus), .val (.string res_whole), .val (.string res_digits), .val (.int .i64 res_point), .val (.bool res_plain), .val (.bool res_down), .val (.string res_exp)], .cells 58 [.val (.bool n_minus), .val (.string n_whole), .val (.string n_digits), .val (.int .i64 n_point), .val (.bool n_plain), .val (.bool n_down), .val (.string n_exp)]]⟩ kn kx kr = (decimal_read_p3 s).bind fun r => (Sum.elim (fun (r_0 : Bool) => kr ⟨[(4, [], .c (.o (.hd 0 0))), (5, [], .c (.o (.val (.bool r_0))))], [], [.cells 58 [.val (.bool n_minus), .val (.string n_whole), .val (.string n_digits), .val (.int .i64 n_point), .val (.bool n_plain), .val (.bool n_down), .val (.string n_exp)]]⟩) (fun (r_1 : ByteArray × Bool × ByteArray) => kn ⟨[(0, [], .c (.o (.val (.string r_1.1)))), (4, [], .c (.o (.hd 0 0))), (6, [], .c (.o (.hd 1 0))), (7, [], .c (.o (.val (.string behind))))], [], [.cells 58 [.val (.bool res_minus), .val (.string res_whole), .val (.string res_digits), .val (.int .i64 res_point), .val (.bool res_plain), .val (.bool res_down), .val (.string res_exp)], .cells 58 [.val (.bool n_minus), .val (.string n_whole), .val (.string n_digits), .val (.int .i64 n_point), .val (.bool r_1.2.1), .val (.bool n_down), .val (.string r_1.2.2)]]⟩)) r := by
  simp only [decimal_read_p3, -eq_self, bind_cond, bind_gd, Option.bind_assoc, Option.bind_some, Sum.elim_inl, Sum.elim_inr, bind_elim]
  kernel_rfl
theorem decimal_read_sub3 : SubOK decimal_read_L decimal_read_G 0 15 139 3 decimal_read_b3 := sub_ok' decimal_read_d3 (fun x R kn kx kr => (decimal_read_p3 x.1.1).bind fun r => (Sum.elim (fun (r_0 : Bool) => kr ⟨[(4, [], .c (.o (.hd 0 0))), (5, [], .c (.o (.val (.bool r_0))))], [], [.cells 58 [.val (.bool x.2.2.1.1), .val (.string x.2.2.1.2.1), .val (.string x.2.2.1.2.2.1), .val (.int .i64 x.2.2.1.2.2.2.1), .val (.bool x.2.2.1.2.2.2.2.1), .val (.bool x.2.2.1.2.2.2.2.2.1), .val (.string x.2.2.1.2.2.2.2.2.2.1)]]⟩) (fun (r_1 : ByteArray × Bool × ByteArray) => kn ⟨[(0, [], .c (.o (.val (.string r_1.1)))), (4, [], .c (.o (.hd 0 0))), (6, [], .c (.o (.hd 1 0))), (7, [], .c (.o (.val (.string x.1.2.2.2.1))))], [], [.cells 58 [.val (.bool x.2.1.1), .val (.string x.2.1.2.1), .val (.string x.2.1.2.2.1), .val (.int .i64 x.2.1.2.2.2.1), .val (.bool x.2.1.2.2.2.2.1), .val (.bool x.2.1.2.2.2.2.2.1), .val (.string x.2.1.2.2.2.2.2.2.1)], .cells 58 [.val (.bool x.2.2.1.1), .val (.string x.2.2.1.2.1), .val (.string x.2.2.1.2.2.1), .val (.int .i64 x.2.2.1.2.2.2.1), .val (.bool r_1.2.1), .val (.bool x.2.2.1.2.2.2.2.2.1), .val (.string r_1.2.2)]]⟩)) r) (by kernel_rfl) fun x R kn kx kr => decimal_read_p3_eq x.1.1 x.1.2.2.2.1 x.2.1.1 x.2.1.2.1 x.2.1.2.2.1 x.2.1.2.2.2.1 x.2.1.2.2.2.2.1 x.2.1.2.2.2.2.2.1 x.2.1.2.2.2.2.2.2.1 x.2.2.1.1 x.2.2.1.2.1 x.2.2.1.2.2.1 x.2.2.1.2.2.2.1 x.2.2.1.2.2.2.2.1 x.2.2.1.2.2.2.2.2.1 x.2.2.1.2.2.2.2.2.2.1 R kn kx kr
theorem decimal_read_p2_eq (s : ByteArray) (behind : ByteArray) (res_minus : Bool) (res_whole : ByteArray) (res_digits : ByteArray) (res_point : Int) (res_plain : Bool) (res_down : Bool) (res_exp : ByteArray) (n_minus : Bool) (n_whole : ByteArray) (n_digits : ByteArray) (n_point : Int) (n_plain : Bool) (n_down : Bool) (n_exp : ByteArray) (R : Type) (kn : QS → Option R) (kx : Nat → QS → Option R) (kr : QS → Option R) :
    interpQ decimal_read_L decimal_read_G 0 15 139 decimal_read_b2 ⟨[(0, [], .c (.o (.val (.string s)))), (4, [], .c (.o (.hd 0 0))), (6, [], .c (.o (.hd 1 0))), (7, [], .c (.o (.val (.string behind))))], [], [.cells 58 [.val (.bool res_minus), .val (.string res_whole), .val (.string res_digits), .val (.int .i64 res_point), .val (.bool res_plain), .val (.bool res_down), .val (.string res_exp)], .cells 58 [.val (.bool n_minus), .val (.string n_whole), .val (.string n_digits), .val (.int .i64 n_point), .val (.bool n_plain), .val (.bool n_down), .val (.string n_exp)]]⟩ kn kx kr = (decimal_read_p2 s n_plain n_down n_exp).bind fun r => (Sum.elim (fun (r_0 : Bool × Bool) => kr ⟨[(4, [], .c (.o (.hd 0 0))), (5, [], .c (.o (.val (.bool r_0.1))))], [], [.cells 58 [.val (.bool n_minus), .val (.string n_whole), .val (.string n_digits), .val (.int .i64 n_point), .val (.bool n_plain), .val (.bool r_0.2), .val (.string n_exp)]]⟩) (fun (r_1 : ByteArray × Bool × Bool × ByteArray) => kx 0 ⟨[(0, [], .c (.o (.val (.string r_1.1)))), (4, [], .c (.o (.hd 0 0))), (6, [], .c (.o (.hd 1 0))), (7, [], .c (.o (.val (.string behind))))], [], [.cells 58 [.val (.bool res_minus), .val (.string res_whole), .val (.string res_digits), .val (.int .i64 res_point), .val (.bool res_plain), .val (.bool res_down), .val (.string res_exp)], .cells 58 [.val (.bool n_minus), .val (.string n_whole), .val (.string n_digits), .val (.int .i64 n_point), .val (.bool r_1.2.1), .val (.bool r_1.2.2.1), .val (.string r_1.2.2.2)]]⟩)) r := by
  simp only [decimal_read_p2, -eq_self, bind_cond, bind_gd, Option.bind_assoc, Option.bind_some, Sum.elim_inl, Sum.elim_inr, bind_elim]
  kernel_rfl
theorem decimal_read_sub2 : SubOK decimal_read_L decimal_read_G 0 15 139 2 decimal_read_b2 := sub_ok' decimal_read_d2 (fun x R kn kx kr => (decimal_read_p2 x.1.1 x.2.2.1.2.2.2.2.1 x.2.2.1.2.2.2.2.2.1 x.2.2.1.2.2.2.2.2.2.1).bind fun r => (Sum.elim (fun (r_0 : Bool × Bool) => kr ⟨[(4, [], .c (.o (.hd 0 0))), (5, [], .c (.o (.val (.bool r_0.1))))], [], [.cells 58 [.val (.bool x.2.2.1.1), .val (.string x.2.2.1.2.1), .val (.string x.2.2.1.2.2.1), .val (.int .i64 x.2.2.1.2.2.2.1), .val (.bool x.2.2.1.2.2.2.2.1), .val (.bool r_0.2), .val (.string x.2.2.1.2.2.2.2.2.2.1)]]⟩) (fun (r_1 : ByteArray × Bool × Bool × ByteArray) => kx 0 ⟨[(0, [], .c (.o (.val (.string r_1.1)))), (4, [], .c (.o (.hd 0 0))), (6, [], .c (.o (.hd 1 0))), (7, [], .c (.o (.val (.string x.1.2.2.2.1))))], [], [.cells 58 [.val (.bool x.2.1.1), .val (.string x.2.1.2.1), .val (.string x.2.1.2.2.1), .val (.int .i64 x.2.1.2.2.2.1), .val (.bool x.2.1.2.2.2.2.1), .val (.bool x.2.1.2.2.2.2.2.1), .val (.string x.2.1.2.2.2.2.2.2.1)], .cells 58 [.val (.bool x.2.2.1.1), .val (.string x.2.2.1.2.1), .val (.string x.2.2.1.2.2.1), .val (.int .i64 x.2.2.1.2.2.2.1), .val (.bool r_1.2.1), .val (.bool r_1.2.2.1), .val (.string r_1.2.2.2)]]⟩)) r) (by kernel_rfl) fun x R kn kx kr => decimal_read_p2_eq x.1.1 x.1.2.2.2.1 x.2.1.1 x.2.1.2.1 x.2.1.2.2.1 x.2.1.2.2.2.1 x.2.1.2.2.2.2.1 x.2.1.2.2.2.2.2.1 x.2.1.2.2.2.2.2.2.1 x.2.2.1.1 x.2.2.1.2.1 x.2.2.1.2.2.1 x.2.2.1.2.2.2.1 x.2.2.1.2.2.2.2.1 x.2.2.1.2.2.2.2.2.1 x.2.2.1.2.2.2.2.2.2.1 R kn kx kr
theorem decimal_read_p4_eq (s : ByteArray) (behind : ByteArray) (res_minus : Bool) (res_whole : ByteArray) (res_digits : ByteArray) (res_point : Int) (res_plain : Bool) (res_down : Bool) (res_exp : ByteArray) (n_minus : Bool) (n_whole : ByteArray) (n_digits : ByteArray) (n_point : Int) (n_plain : Bool) (n_down : Bool) (n_exp : ByteArray) (R : Type) (kn : QS → Option R) (kx : Nat → QS → Option R) (kr : QS → Option R) :
    interpQ decimal_read_L decimal_read_G 0 15 139 decimal_read_b4 ⟨[(0, [], .c (.o (.val (.string s)))), (4, [], .c (.o (.hd 0 0))), (6, [], .c (.o (.hd 1 0))), (7, [], .c (.o (.val (.string behind))))], [], [.cells 58 [.val (.bool res_minus), .val (.string res_whole), .val (.string res_digits), .val (.int .i64 res_point), .val (.bool res_plain), .val (.bool res_down), .val (.string res_exp)], .cells 58 [.val (.bool n_minus), .val (.string n_whole), .val (.string n_digits), .val (.int .i64 n_point), .val (.bool n_plain), .val (.bool n_down), .val (.string n_exp)]]⟩ kn kx kr = (decimal_read_p4 s behind n_whole n_down n_exp).bind fun r => kr ⟨[(4, [], .c (.o (.hd 0 0))), (5, [], .c (.o (.val (.bool r.1))))], [], [.cells 58 [.val (.bool n_minus), .val (.string n_whole), .val (.string r.2.1), .val (.int .i64 r.2.2.1), .val (.bool n_plain), .val (.bool r.2.2.2), .val (.string n_exp)]]⟩ := by
  simp only [decimal_read_p4, -eq_self, bind_cond, bind_gd, Option.bind_assoc, Option.bind_some, Sum.elim_inl, Sum.elim_inr, bind_elim]
  kernel_rfl
theorem decimal_read_sub4 : SubOK decimal_read_L decimal_read_G 0 15 139 4 decimal_read_b4 := sub_ok' decimal_read_d4 (fun x R kn kx kr => (decimal_read_p4 x.1.1 x.1.2.2.2.1 x.2.2.1.2.1 x.2.2.1.2.2.2.2.2.1 x.2.2.1.2.2.2.2.2.2.1).bind fun r => kr ⟨[(4, [], .c (.o (.hd 0 0))), (5, [], .c (.o (.val (.bool r.1))))], [], [.cells 58 [.val (.bool x.2.2.1.1), .val (.string x.2.2.1.2.1), .val (.string r.2.1), .val (.int .i64 r.2.2.1), .val (.bool x.2.2.1.2.2.2.2.1), .val (.bool r.2.2.2), .val (.string x.2.2.1.2.2.2.2.2.2.1)]]⟩) (by kernel_rfl) fun x R kn kx kr => decimal_read_p4_eq x.1.1 x.1.2.2.2.1 x.2.1.1 x.2.1.2.1 x.2.1.2.2.1 x.2.1.2.2.2.1 x.2.1.2.2.2.2.1 x.2.1.2.2.2.2.2.1 x.2.1.2.2.2.2.2.2.1 x.2.2.1.1 x.2.2.1.2.1 x.2.2.1.2.2.1 x.2.2.1.2.2.2.1 x.2.2.1.2.2.2.2.1 x.2.2.1.2.2.2.2.2.1 x.2.2.1.2.2.2.2.2.2.1 R kn kx kr
theorem decimal_read_subs : subsOK decimal_read_L decimal_read_G 0 15 139 decimal_read_q := subs_of (show AllSub decimal_read_L decimal_read_G 0 15 139 [(0, decimal_read_b0), (1, decimal_read_b1), (2, decimal_read_b2), (3, decimal_read_b3), (4, decimal_read_b4)] from ⟨decimal_read_sub0, decimal_read_sub1, decimal_read_sub2, decimal_read_sub3, decimal_read_sub4, trivial⟩)
theorem decimal_read_eq (s : ByteArray) (part : Int) (R : Type) (k : SV → List SB → Option R) :
    fnQ decimal_read_L decimal_read_G 15 139 decimal_read_q [.cell 4 (some 7), .tmp 5] [.c (.o (.val (.string s))), .c (.o (.val (.int .i64 part)))] [] k = (decimal_read_s s part).bind fun r => k (.tup [.agg [.val (.bool r.1.minus), .val (.string r.1.whole), .val (.string r.1.digits), .val (.int .i64 r.1.point), .val (.bool r.1.plain), .val (.bool r.1.down), .val (.string r.1.exp_)], .o (.val (.bool r.2))]) [] := by
  simp only [decimal_read_s, -eq_self, bind_cond, bind_gd, Option.bind_assoc, Option.bind_some, Sum.elim_inl, Sum.elim_inr, bind_elim]
  kernel_rfl
def decimal_read_da := (dCons (dVC (dCO dS)) (dCons (dVC (dCO (dI .i64))) dNil))
def decimal_read_db := (dNil : Dec Unit (List SB))
noncomputable def decimal_read_c : CS := fun args hp R k => (Dec.d decimal_read_da args).bind fun x => (Dec.d decimal_read_db hp).bind fun y => (decimal_read_s x.1 x.2.1).bind fun r => k (.tup [.agg [.val (.bool r.1.minus), .val (.string r.1.whole), .val (.string r.1.digits), .val (.int .i64 r.1.point), .val (.bool r.1.plain), .val (.bool r.1.down), .val (.string r.1.exp_)], .o (.val (.bool r.2))]) []
theorem decimal_read_val : ValidS Tryd.prog 36 decimal_read_c :=
  val_ok decimal_read_chk 15 decimal_read_Gok decimal_read_da decimal_read_db 0 (fun x y R k => (decimal_read_s x.1 x.2.1).bind fun r => k (.tup [.agg [.val (.bool r.1.minus), .val (.string r.1.whole), .val (.string r.1.digits), .val (.int .i64 r.1.point), .val (.bool r.1.plain), .val (.bool r.1.down), .val (.string r.1.exp_)], .o (.val (.bool r.2))]) []) (by kernel_rfl)
    (fun x y R k => by simp only [Option.bind_assoc, Option.bind_some]) (fun x => Nat.le_of_ble_eq_true rfl) (fun y => rfl) decimal_read_subs fun x y => decimal_read_eq x.1 x.2.1 _ _
noncomputable def decimal_read_w : CQ := liftV [] decimal_read_c
theorem decimal_read_ok : ValidQ Tryd.prog 36 decimal_read_w := liftV_valid decimal_read_val

/-! ### signet/decimal.digitAt -/
def decimal_digitAt_q : IQ :=
  (.seq
  (.reg 4 none [
    ⟨(some 4), .mv (.v (.int .i64 0)), none⟩])
  (.seq
  (.seq
  (.reg 8 none [
    ⟨(some 5), .mv (.t 1), none⟩,
    ⟨(some 6), .mv (.t 0), none⟩,
    ⟨(some 7), .lenS (.t 6), none⟩,
    ⟨(some 8), .bin false .geq (.t 5) (.t 7), none⟩])
  (.cond (.t 8)
    (.seq
    (.reg 4 none [
      ⟨(some 4), .mv (.v (.int .i64 0)), none⟩])
    (.canon [] [4] .ret))
    .skip))
  (.seq
  (.reg 4 none [
    ⟨(some 9), .mv (.t 0), none⟩,
    ⟨(some 10), .mv (.t 0), none⟩,
    ⟨(some 11), .lenS (.t 10), none⟩,
    ⟨(some 12), .bin false .sub (.t 11) (.v (.int .i64 1)), none⟩,
    ⟨(some 13), .mv (.t 1), none⟩,
    ⟨(some 14), .bin false .sub (.t 12) (.t 13), none⟩,
    ⟨(some 15), .index (.t 9) (.t 14), none⟩,
    ⟨(some 16), .bin false .sub (.t 15) (.v (.int .u8 48)), none⟩,
    ⟨(some 17), .conv false .i64 (.t 16), none⟩,
    ⟨(some 4), .mv (.t 17), none⟩])
  (.canon [] [4] .ret))))
theorem decimal_digitAt_chk : chk Tryd.prog 56 [] = some (decimal_digitAt_q.erase, [.tmp 4], 18) := by kernel_rfl
noncomputable def decimal_digitAt_s (s : ByteArray) (i : Int) : Option Int :=
  bif decide ((s.size : Int) ≤ i) then (
    some (0 : Int))
  else (
    gd (InI64 ((s.size : Int) - (1 : Int))) <|
    gd (InI64 (((s.size : Int) - (1 : Int)) - i)) <|
    gd (0 ≤ (((s.size : Int) - (1 : Int)) - i) ∧ (((s.size : Int) - (1 : Int)) - i) < s.size) <|
    gd (InI64 (((bAt s (((s.size : Int) - (1 : Int)) - i)) - (48 : Int)) % 256)) <|
    some (((bAt s (((s.size : Int) - (1 : Int)) - i)) - (48 : Int)) % 256))
noncomputable def decimal_digitAt_G : Nat → Option CQ := tblQ []
theorem decimal_digitAt_Gok : ∀ f C, decimal_digitAt_G f = some C → ValidQ Tryd.prog f C := fun f C h => by cases h
noncomputable def decimal_digitAt_L : Nat → SubQ := tblL []
theorem decimal_digitAt_subs : subsOK decimal_digitAt_L decimal_digitAt_G 0 5 18 decimal_digitAt_q := subs_of (show AllSub decimal_digitAt_L decimal_digitAt_G 0 5 18 [] from trivial)
theorem decimal_digitAt_eq (s : ByteArray) (i : Int) (R : Type) (k : SV → List SB → Option R) :
    fnQ decimal_digitAt_L decimal_digitAt_G 5 18 decimal_digitAt_q [.tmp 4] [.c (.o (.val (.string s))), .c (.o (.val (.int .i64 i)))] [] k = (decimal_digitAt_s s i).bind fun r => k (.c (.o (.val (.int .i64 r)))) [] := by
  simp only [decimal_digitAt_s, -eq_self, bind_cond, bind_gd, Option.bind_assoc, Option.bind_some, Sum.elim_inl, Sum.elim_inr, bind_elim]
  kernel_rfl
def decimal_digitAt_da := (dCons (dVC (dCO dS)) (dCons (dVC (dCO (dI .i64))) dNil))
def decimal_digitAt_db := (dNil : Dec Unit (List SB))
noncomputable def decimal_digitAt_c : CS := fun args hp R k => (Dec.d decimal_digitAt_da args).bind fun x => (Dec.d decimal_digitAt_db hp).bind fun y => (decimal_digitAt_s x.1 x.2.1).bind fun r => k (.c (.o (.val (.int .i64 r)))) []
theorem decimal_digitAt_val : ValidS Tryd.prog 56 decimal_digitAt_c :=
  val_ok decimal_digitAt_chk 5 decimal_digitAt_Gok decimal_digitAt_da decimal_digitAt_db 0 (fun x y R k => (decimal_digitAt_s x.1 x.2.1).bind fun r => k (.c (.o (.val (.int .i64 r)))) []) (by kernel_rfl)
    (fun x y R k => by simp only [Option.bind_assoc, Option.bind_some]) (fun x => Nat.le_of_ble_eq_true rfl) (fun y => rfl) decimal_digitAt_subs fun x y => decimal_digitAt_eq x.1 x.2.1 _ _
noncomputable def decimal_digitAt_w : CQ := liftV [] decimal_digitAt_c
theorem decimal_digitAt_ok : ValidQ Tryd.prog 56 decimal_digitAt_w := liftV_valid decimal_digitAt_val

/-! ### signet/decimal.apart -/
def decimal_apart_b2 : IQ :=
  (.join [] [2, 3, 5, 6]
  (.seq
  (.reg 5 none [
    ⟨(some 37), .mv (.t 5), none⟩,
    ⟨(some 38), .bin false .mul (.v (.int .i64 10)) (.t 37), none⟩,
    ⟨(some 39), .mv (.t 7), none⟩,
    ⟨(some 40), .bin false .add (.t 38) (.t 39), none⟩,
    ⟨(some 41), .mv (.t 8), none⟩,
    ⟨(some 42), .bin false .sub (.t 40) (.t 41), none⟩,
    ⟨(some 5), .mv (.t 42), none⟩])
  (.seq
  (.reg 48 none [
    ⟨(some 43), .mv (.t 5), none⟩,
    ⟨(some 44), .bin false .gtr (.t 43) (.v (.int .i64 72057594037927936)), none⟩,
    ⟨(some 45), .mv (.t 44), none⟩,
    ⟨(some 46), .mv (.t 5), some (45, false)⟩,
    ⟨(some 47), .bin false .lss (.t 46) (.v (.int .i64 (-72057594037927936))), some (45, false)⟩,
    ⟨(some 48), .pick (.t 45) (.v (.bool true)) (.t 47), none⟩])
  (.cond (.t 48)
    (.seq
    (.reg 4 none [
      ⟨(some 49), .mv (.t 5), none⟩,
      ⟨(some 50), .mm false (.v (.int .i64 72057594037927936)) (.t 49), none⟩,
      ⟨(some 51), .mm true (.v (.int .i64 (-72057594037927936))) (.t 50), none⟩,
      ⟨(some 4), .mv (.t 51), none⟩])
    (.canon [] [4] .ret))
    .skip))))
def decimal_apart_b1 : IQ :=
  (.join [] [2, 3, 5, 6]
  (.seq
  (.seq
  (.reg 34 none [
    ⟨(some 33), .faddr 5 (.t 3), none⟩,
    ⟨(some 34), .load none (.t 33), none⟩])
  (.cond (.t 34)
    (.reg 8 none [
      ⟨(some 35), .mv (.t 8), none⟩,
      ⟨(some 36), .un .neg (.t 35), none⟩,
      ⟨(some 8), .mv (.t 36), none⟩])
    .skip))
  (.canon [] [2, 3, 5, 6, 7, 8] (.sub 2 decimal_apart_b2))))
def decimal_apart_b0 : IQ :=
  (.loop [2, 3, 5, 6]
    (.seq
    (.seq
    (.reg 18 none [
      ⟨(some 17), .mv (.t 6), none⟩,
      ⟨(some 18), .bin false .geq (.t 17) (.v (.int .i64 0)), none⟩])
    (.cond (.t 18)
      .skip
      (.canon [] [5] (.exit 0))))
    (.seq
    (.block 1
      (.seq
      (.reg 8 (some [0, 1, 2, 4, 5, 6, 3, 7, 8, 9]) [
        ⟨(some 21), .faddr 6 (.t 2), none⟩,
        ⟨(some 22), .load none (.t 21), none⟩,
        ⟨(some 23), .mv (.t 6), none⟩,
        ⟨(some 25), .faddr 6 (.t 3), none⟩,
        ⟨(some 26), .load none (.t 25), none⟩,
        ⟨(some 27), .mv (.t 6), none⟩,
        ⟨(some 24), .call 56 [(.t 22), (.t 23)], none⟩,
        ⟨(some 28), .call 56 [(.t 26), (.t 27)], none⟩,
        ⟨(some 7), .mv (.t 24), none⟩,
        ⟨(some 8), .mv (.t 28), none⟩])
      (.seq
      (.seq
      (.reg 30 none [
        ⟨(some 29), .faddr 5 (.t 2), none⟩,
        ⟨(some 30), .load none (.t 29), none⟩])
      (.cond (.t 30)
        (.reg 7 none [
          ⟨(some 31), .mv (.t 7), none⟩,
          ⟨(some 32), .un .neg (.t 31), none⟩,
          ⟨(some 7), .mv (.t 32), none⟩])
        .skip))
      (.canon [] [2, 3, 5, 6, 7, 8] (.sub 1 decimal_apart_b1)))))
    (.reg 6 none [
      ⟨(some 19), .mv (.t 6), none⟩,
      ⟨(some 20), .bin false .sub (.t 19) (.v (.int .i64 1)), none⟩,
      ⟨(some 6), .mv (.t 20), none⟩]))))
def decimal_apart_q : IQ :=
  (.seq
  (.reg 4 none [
    ⟨(some 2), .box 58 7 (.t 0), none⟩,
    ⟨(some 3), .box 58 7 (.t 1), none⟩,
    ⟨(some 4), .mv (.v (.int .i64 0)), none⟩])
  (.seq
  (.reg 5 none [
    ⟨(some 5), .mv (.v (.int .i64 0)), none⟩])
  (.seq
  (.seq
  (.reg 6 none [
    ⟨(some 9), .faddr 6 (.t 2), none⟩,
    ⟨(some 10), .load none (.t 9), none⟩,
    ⟨(some 11), .lenS (.t 10), none⟩,
    ⟨(some 12), .faddr 6 (.t 3), none⟩,
    ⟨(some 13), .load none (.t 12), none⟩,
    ⟨(some 14), .lenS (.t 13), none⟩,
    ⟨(some 15), .mm true (.t 11) (.t 14), none⟩,
    ⟨(some 16), .bin false .sub (.t 15) (.v (.int .i64 1)), none⟩,
    ⟨(some 6), .mv (.t 16), none⟩])
  (.block 0
    (.canon [] [2, 3, 5, 6] (.sub 0 decimal_apart_b0))))
  (.seq
  (.reg 4 none [
    ⟨(some 52), .mv (.t 5), none⟩,
    ⟨(some 4), .mv (.t 52), none⟩])
  (.canon [] [4] .ret)))))
theorem decimal_apart_chk : chk Tryd.prog 40 [] = some (decimal_apart_q.erase, [.tmp 4], 53) := by kernel_rfl
noncomputable def decimal_apart_p2 (d : Int) (x_ : Int) (y_ : Int) : Option (Int ⊕ Int) :=
  gd (InI64 ((10 : Int) * d)) <|
  gd (InI64 (((10 : Int) * d) + x_)) <|
  gd (InI64 ((((10 : Int) * d) + x_) - y_)) <|
  bif ((decide ((72057594037927936 : Int) < ((((10 : Int) * d) + x_) - y_))) || (decide (((((10 : Int) * d) + x_) - y_) < (-72057594037927936 : Int)))) then (
    some (.inl (if (if ((((10 : Int) * d) + x_) - y_) < (72057594037927936 : Int) then ((((10 : Int) * d) + x_) - y_) else (72057594037927936 : Int)) > (-72057594037927936 : Int) then (if ((((10 : Int) * d) + x_) - y_) < (72057594037927936 : Int) then ((((10 : Int) * d) + x_) - y_) else (72057594037927936 : Int)) else (-72057594037927936 : Int))))
  else (
    some (.inr ((((10 : Int) * d) + x_) - y_)))
noncomputable def decimal_apart_p1 (d : Int) (x_ : Int) (y_ : Int) (b_down : Bool) : Option (Int ⊕ Int) :=
  bif b_down then (
    gd (InI64 (0 - y_)) <|
    (decimal_apart_p2 d x_ (0 - y_)).bind fun o13 => (Sum.elim (fun (o13_0 : Int) =>
      some (.inl o13_0)) (fun (o13_1 : Int) =>
      some (.inr o13_1))) o13)
  else (
    (decimal_apart_p2 d x_ y_).bind fun o14 => (Sum.elim (fun (o14_0 : Int) =>
      some (.inl o14_0)) (fun (o14_1 : Int) =>
      some (.inr o14_1))) o14)
noncomputable def decimal_apart_p0_step (d : Int) (i : Int) (a_down : Bool) (a_exp : ByteArray) (b_down : Bool) (b_exp : ByteArray) : Option ((Int × Int) ⊕ (Int ⊕ Int)) :=
  bif decide ((0 : Int) ≤ i) then (
    (decimal_digitAt_s a_exp i).bind fun r11 =>
    (decimal_digitAt_s b_exp i).bind fun r12 =>
    bif a_down then (
      gd (InI64 (0 - r11)) <|
      (decimal_apart_p1 d (0 - r11) r12 b_down).bind fun o15 => (Sum.elim (fun (o15_0 : Int) =>
        some (.inr (.inl o15_0))) (fun (o15_1 : Int) =>
        gd (InI64 (i - (1 : Int))) <|
        some (.inl (o15_1, (i - (1 : Int)))))) o15)
    else (
      (decimal_apart_p1 d r11 r12 b_down).bind fun o16 => (Sum.elim (fun (o16_0 : Int) =>
        some (.inr (.inl o16_0))) (fun (o16_1 : Int) =>
        gd (InI64 (i - (1 : Int))) <|
        some (.inl (o16_1, (i - (1 : Int)))))) o16))
  else (
    some (.inr (.inr d)))
noncomputable def decimal_apart_p0 (d : Int) (i : Int) (a_down : Bool) (a_exp : ByteArray) (b_down : Bool) (b_exp : ByteArray) : Option (Int ⊕ Int) :=
  whileO (fun x : (Int × Int) => decimal_apart_p0_step x.1 x.2 a_down a_exp b_down b_exp) (d, i)
noncomputable def decimal_apart_s (a : decimal_number) (b : decimal_number) : Option Int :=
  gd (InI64 ((if (b.exp_.size : Int) > (a.exp_.size : Int) then (b.exp_.size : Int) else (a.exp_.size : Int)) - (1 : Int))) <|
  (decimal_apart_p0 (0 : Int) ((if (b.exp_.size : Int) > (a.exp_.size : Int) then (b.exp_.size : Int) else (a.exp_.size : Int)) - (1 : Int)) a.down a.exp_ b.down b.exp_).bind fun o17 => (Sum.elim (fun (o17_0 : Int) =>
    some o17_0) (fun (o17_1 : Int) =>
    some o17_1)) o17
noncomputable def decimal_apart_G : Nat → Option CQ := tblQ [(56, decimal_digitAt_w)]
theorem decimal_apart_Gok : ∀ f C, decimal_apart_G f = some C → ValidQ Tryd.prog f C := tblQ_valid ⟨decimal_digitAt_ok, trivial⟩
def decimal_apart_d2 := (dQS (dCons (dSl 2 (dVC (dCO (dH 0 0)))) (dCons (dSl 3 (dVC (dCO (dH 1 0)))) (dCons (dSl 5 (dVC (dCO (dI .i64)))) (dCons (dSl 6 (dVC (dCO (dI .i64)))) (dCons (dSl 7 (dVC (dCO (dI .i64)))) (dCons (dSl 8 (dVC (dCO (dI .i64)))) dNil)))))) (dCons (dCells 58 (dCons dB (dCons dS (dCons dS (dCons (dI .i64) (dCons dB (dCons dB (dCons dS dNil)))))))) (dCons (dCells 58 (dCons dB (dCons dS (dCons dS (dCons (dI .i64) (dCons dB (dCons dB (dCons dS dNil)))))))) dNil)))
noncomputable def decimal_apart_l2 : SubQ := fun S R kn kx kr => (Dec.d decimal_apart_d2 S).bind fun x => (decimal_apart_p2 x.1.2.2.1 x.1.2.2.2.2.1 x.1.2.2.2.2.2.1).bind fun r => (Sum.elim (fun (r_0 : Int) => kr ⟨[(4, [], .c (.o (.val (.int .i64 r_0))))], [], []⟩) (fun (r_1 : Int) => kn ⟨[(2, [], .c (.o (.hd 0 0))), (3, [], .c (.o (.hd 1 0))), (5, [], .c (.o (.val (.int .i64 r_1)))), (6, [], .c (.o (.val (.int .i64 x.1.2.2.2.1))))], [], [.cells 58 [.val (.bool x.2.1.1), .val (.string x.2.1.2.1), .val (.string x.2.1.2.2.1), .val (.int .i64 x.2.1.2.2.2.1), .val (.bool x.2.1.2.2.2.2.1), .val (.bool x.2.1.2.2.2.2.2.1), .val (.string x.2.1.2.2.2.2.2.2.1)], .cells 58 [.val (.bool x.2.2.1.1), .val (.string x.2.2.1.2.1), .val (.string x.2.2.1.2.2.1), .val (.int .i64 x.2.2.1.2.2.2.1), .val (.bool x.2.2.1.2.2.2.2.1), .val (.bool x.2.2.1.2.2.2.2.2.1), .val (.string x.2.2.1.2.2.2.2.2.2.1)]]⟩)) r
def decimal_apart_d1 := (dQS (dCons (dSl 2 (dVC (dCO (dH 0 0)))) (dCons (dSl 3 (dVC (dCO (dH 1 0)))) (dCons (dSl 5 (dVC (dCO (dI .i64)))) (dCons (dSl 6 (dVC (dCO (dI .i64)))) (dCons (dSl 7 (dVC (dCO (dI .i64)))) (dCons (dSl 8 (dVC (dCO (dI .i64)))) dNil)))))) (dCons (dCells 58 (dCons dB (dCons dS (dCons dS (dCons (dI .i64) (dCons dB (dCons dB (dCons dS dNil)))))))) (dCons (dCells 58 (dCons dB (dCons dS (dCons dS (dCons (dI .i64) (dCons dB (dCons dB (dCons dS dNil)))))))) dNil)))
noncomputable def decimal_apart_l1 : SubQ := fun S R kn kx kr => (Dec.d decimal_apart_d1 S).bind fun x => (decimal_apart_p1 x.1.2.2.1 x.1.2.2.2.2.1 x.1.2.2.2.2.2.1 x.2.2.1.2.2.2.2.2.1).bind fun r => (Sum.elim (fun (r_0 : Int) => kr ⟨[(4, [], .c (.o (.val (.int .i64 r_0))))], [], []⟩) (fun (r_1 : Int) => kn ⟨[(2, [], .c (.o (.hd 0 0))), (3, [], .c (.o (.hd 1 0))), (5, [], .c (.o (.val (.int .i64 r_1)))), (6, [], .c (.o (.val (.int .i64 x.1.2.2.2.1))))], [], [.cells 58 [.val (.bool x.2.1.1), .val (.string x.2.1.2.1), .val (.string x.2.1.2.2.1), .val (.int .i64 x.2.1.2.2.2.1), .val (.bool x.2.1.2.2.2.2.1), .val (.bool x.2.1.2.2.2.2.2.1), .val (.string x.2.1.2.2.2.2.2.2.1)], .cells 58 [.val (.bool x.2.2.1.1), .val (.string x.2.2.1.2.1), .val (.string x.2.2.1.2.2.1), .val (.int .i64 x.2.2.1.2.2.2.1), .val (.bool x.2.2.1.2.2.2.2.1), .val (.bool x.2.2.1.2.2.2.2.2.1), .val (.string x.2.2.1.2.2.2.2.2.2.1)]]⟩)) r
def decimal_apart_d0 := (dQS (dCons (dSl 2 (dVC (dCO (dH 0 0)))) (dCons (dSl 3 (dVC (dCO (dH 1 0)))) (dCons (dSl 5 (dVC (dCO (dI .i64)))) (dCons (dSl 6 (dVC (dCO (dI .i64)))) dNil)))) (dCons (dCells 58 (dCons dB (dCons dS (dCons dS (dCons (dI .i64) (dCons dB (dCons dB (dCons dS dNil)))))))) (dCons (dCells 58 (dCons dB (dCons dS (dCons dS (dCons (dI .i64) (dCons dB (dCons dB (dCons dS dNil)))))))) dNil)))
noncomputable def decimal_apart_l0 : SubQ := fun S R kn kx kr => (Dec.d decimal_apart_d0 S).bind fun x => (decimal_apart_p0 x.1.2.2.1 x.1.2.2.2.1 x.2.1.2.2.2.2.2.1 x.2.1.2.2.2.2.2.2.1 x.2.2.1.2.2.2.2.2.1 x.2.2.1.2.2.2.2.2.2.1).bind fun r => (Sum.elim (fun (r_0 : Int) => kr ⟨[(4, [], .c (.o (.val (.int .i64 r_0))))], [], []⟩) (fun (r_1 : Int) => kx 0 ⟨[(5, [], .c (.o (.val (.int .i64 r_1))))], [], []⟩)) r
noncomputable def decimal_apart_L : Nat → SubQ := tblL [(2, decimal_apart_l2), (1, decimal_apart_l1), (0, decimal_apart_l0)]
theorem decimal_apart_p2_eq (d : Int) (i : Int) (x_ : Int) (y_ : Int) (a_minus : Bool) (a_whole : ByteArray) (a_digits : ByteArray) (a_point : Int) (a_plain : Bool) (a_down : Bool) (a_exp : ByteArray) (b_minus : Bool) (b_whole : ByteArray) (b_digits : ByteArray) (b_point : Int) (b_plain : Bool) (b_down : Bool) (b_exp : ByteArray) (R : Type) (kn : QS → Option R) (kx : Nat → QS → Option R) (kr : QS → Option R) :
    interpQ decimal_apart_L decimal_apart_G 0 9 53 decimal_apart_b2 ⟨[(2, [], .c (.o (.hd 0 0))), (3, [], .c (.o (.hd 1 0))), (5, [], .c (.o (.val (.int .i64 d)))), (6, [], .c (.o (.val (.int .i64 i)))), (7, [], .c (.o (.val (.int .i64 x_)))), (8, [], .c (.o (.val (.int .i64 y_))))], [], [.cells 58 [.val (.bool a_minus), .val (.string a_whole), .val (.string a_digits), .val (.int .i64 a_point), .val (.bool a_plain), .val (.bool a_down), .val (.string a_exp)], .cells 58 [.val (.bool b_minus), .val (.string b_whole), .val (.string b_digits), .val (.int .i64 b_point), .val (.bool b_plain), .val (.bool b_down), .val (.string b_exp)]]⟩ kn kx kr = (decimal_apart_p2 d x_ y_).bind fun r => (Sum.elim (fun (r_0 : Int) => kr ⟨[(4, [], .c (.o (.val (.int .i64 r_0))))], [], []⟩) (fun (r_1 : Int) => kn ⟨[(2, [], .c (.o (.hd 0 0))), (3, [], .c (.o (.hd 1 0))), (5, [], .c (.o (.val (.int .i64 r_1)))), (6, [], .c (.o (.val (.int .i64 i))))], [], [.cells 58 [.val (.bool a_minus), .val (.string a_whole), .val (.string a_digits), .val (.int .i64 a_point), .val (.bool a_plain), .val (.bool a_down), .val (.string a_exp)], .cells 58 [.val (.bool b_minus), .val (.string b_whole), .val (.string b_digits), .val (.int .i64 b_point), .val (.bool b_plain), .val (.bool b_down), .val (.string b_exp)]]⟩)) r := by
  simp only [decimal_apart_p2, -eq_self, bind_cond, bind_gd, Option.bind_assoc, Option.bind_some, Sum.elim_inl, Sum.elim_inr, bind_elim]
  kernel_rfl
theorem decimal_apart_sub2 : SubOK decimal_apart_L decimal_apart_G 0 9 53 2 decimal_apart_b2 := sub_ok' decimal_apart_d2 (fun x R kn kx kr => (decimal_apart_p2 x.1.2.2.1 x.1.2.2.2.2.1 x.1.2.2.2.2.2.1).bind fun r => (Sum.elim (fun (r_0 : Int) => kr ⟨[(4, [], .c (.o (.val (.int .i64 r_0))))], [], []⟩) (fun (r_1 : Int) => kn ⟨[(2, [], .c (.o (.hd 0 0))), (3, [], .c (.o (.hd 1 0))), (5, [], .c (.o (.val (.int .i64 r_1)))), (6, [], .c (.o (.val (.int .i64 x.1.2.2.2.1))))], [], [.cells 58 [.val (.bool x.2.1.1), .val (.string x.2.1.2.1), .val (.string x.2.1.2.2.1), .val (.int .i64 x.2.1.2.2.2.1), .val (.bool x.2.1.2.2.2.2.1), .val (.bool x.2.1.2.2.2.2.2.1), .val (.string x.2.1.2.2.2.2.2.2.1)], .cells 58 [.val (.bool x.2.2.1.1), .val (.string x.2.2.1.2.1), .val (.string x.2.2.1.2.2.1), .val (.int .i64 x.2.2.1.2.2.2.1), .val (.bool x.2.2.1.2.2.2.2.1), .val (.bool x.2.2.1.2.2.2.2.2.1), .val (.string x.2.2.1.2.2.2.2.2.2.1)]]⟩)) r) (by kernel_rfl) fun x R kn kx kr => decimal_apart_p2_eq x.1.2.2.1 x.1.2.2.2.1 x.1.2.2.2.2.1 x.1.2.2.2.2.2.1 x.2.1.1 x.2.1.2.1 x.2.1.2.2.1 x.2.1.2.2.2.1 x.2.1.2.2.2.2.1 x.2.1.2.2.2.2.2.1 x.2.1.2.2.2.2.2.2.1 x.2.2.1.1 x.2.2.1.2.1 x.2.2.1.2.2.1 x.2.2.1.2.2.2.1 x.2.2.1.2.2.2.2.1 x.2.2.1.2.2.2.2.2.1 x.2.2.1.2.2.2.2.2.2.1 R kn kx kr
theorem decimal_apart_p1_eq (d : Int) (i : Int) (x_ : Int) (y_ : Int) (a_minus : Bool) (a_whole : ByteArray) (a_digits : ByteArray) (a_point : Int) (a_plain : Bool) (a_down : Bool) (a_exp : ByteArray) (b_minus : Bool) (b_whole : ByteArray) (b_digits : ByteArray) (b_point : Int) (b_plain : Bool) (b_down : Bool) (b_exp : ByteArray) (R : Type) (kn : QS → Option R) (kx : Nat → QS → Option R) (kr : QS → Option R) :
    interpQ decimal_apart_L decimal_apart_G 0 9 53 decimal_apart_b1 ⟨[(2, [], .c (.o (.hd 0 0))), (3, [], .c (.o (.hd 1 0))), (5, [], .c (.o (.val (.int .i64 d)))), (6, [], .c (.o (.val (.int .i64 i)))), (7, [], .c (.o (.val (.int .i64 x_)))), (8, [], .c (.o (.val (.int .i64 y_))))], [], [.cells 58 [.val (.bool a_minus), .val (.string a_whole), .val (.string a_digits), .val (.int .i64 a_point), .val (.bool a_plain), .val (.bool a_down), .val (.string a_exp)], .cells 58 [.val (.bool b_minus), .val (.string b_whole), .val (.string b_digits), .val (.int .i64 b_point), .val (.bool b_plain), .val (.bool b_down), .val (.string b_exp)]]⟩ kn kx kr = (decimal_apart_p1 d x_ y_ b_down).bind fun r => (Sum.elim (fun (r_0 : Int) => kr ⟨[(4, [], .c (.o (.val (.int .i64 r_0))))], [], []⟩) (fun (r_1 : Int) => kn ⟨[(2, [], .c (.o (.hd 0 0))), (3, [], .c (.o (.hd 1 0))), (5, [], .c (.o (.val (.int .i64 r_1)))), (6, [], .c (.o (.val (.int .i64 i))))], [], [.cells 58 [.val (.bool a_minus), .val (.string a_whole), .val (.string a_digits), .val (.int .i64 a_point), .val (.bool a_plain), .val (.bool a_down), .val (.string a_exp)], .cells 58 [.val (.bool b_minus), .val (.string b_whole), .val (.string b_digits), .val (.int .i64 b_point), .val (.bool b_plain), .val (.bool b_down), .val (.string b_exp)]]⟩)) r := by
  simp only [decimal_apart_p1, -eq_self, bind_cond, bind_gd, Option.bind_assoc, Option.bind_some, Sum.elim_inl, Sum.elim_inr, bind_elim]
  kernel_rfl
theorem decimal_apart_sub1 : SubOK decimal_apart_L decimal_apart_G 0 9 53 1 decimal_apart_b1 := sub_ok' decimal_apart_d1 (fun x R kn kx kr => (decimal_apart_p1 x.1.2.2.1 x.1.2.2.2.2.1 x.1.2.2.2.2.2.1 x.2.2.1.2.2.2.2.2.1).bind fun r => (Sum.elim (fun (r_0 : Int) => kr ⟨[(4, [], .c (.o (.val (.int .i64 r_0))))], [], []⟩) (fun (r_1 : Int) => kn ⟨[(2, [], .c (.o (.hd 0 0))), (3, [], .c (.o (.hd 1 0))), (5, [], .c (.o (.val (.int .i64 r_1)))), (6, [], .c (.o (.val (.int .i64 x.1.2.2.2.1))))], [], [.cells 58 [.val (.bool x.2.1.1), .val (.string x.2.1.2.1), .val (.string x.2.1.2.2.1), .val (.int .i64 x.2.1.2.2.2.1), .val (.bool x.2.1.2.2.2.2.1), .val (.bool x.2.1.2.2.2.2.2.1), .val (.string x.2.1.2.2.2.2.2.2.1)], .cells 58 [.val (.bool x.2.2.1.1), .val (.string x.2.2.1.2.1), .val (.string x.2.2.1.2.2.1), .val (.int .i64 x.2.2.1.2.2.2.1), .val (.bool x.2.2.1.2.2.2.2.1), .val (.bool x.2.2.1.2.2.2.2.2.1), .val (.string x.2.2.1.2.2.2.2.2.2.1)]]⟩)) r) (by kernel_rfl) fun x R kn kx kr => decimal_apart_p1_eq x.1.2.2.1 x.1.2.2.2.1 x.1.2.2.2.2.1 x.1.2.2.2.2.2.1 x.2.1.1 x.2.1.2.1 x.2.1.2.2.1 x.2.1.2.2.2.1 x.2.1.2.2.2.2.1 x.2.1.2.2.2.2.2.1 x.2.1.2.2.2.2.2.2.1 x.2.2.1.1 x.2.2.1.2.1 x.2.2.1.2.2.1 x.2.2.1.2.2.2.1 x.2.2.1.2.2.2.2.1 x.2.2.1.2.2.2.2.2.1 x.2.2.1.2.2.2.2.2.2.1 R kn kx kr
theorem decimal_apart_p0_eq (d : Int) (i : Int) (a_minus : Bool) (a_whole : ByteArray) (a_digits : ByteArray) (a_point : Int) (a_plain : Bool) (a_down : Bool) (a_exp : ByteArray) (b_minus : Bool) (b_whole : ByteArray) (b_digits : ByteArray) (b_point : Int) (b_plain : Bool) (b_down : Bool) (b_exp : ByteArray) (R : Type) (kn : QS → Option R) (kx : Nat → QS → Option R) (kr : QS → Option R) :
    interpQ decimal_apart_L decimal_apart_G 0 9 53 decimal_apart_b0 ⟨[(2, [], .c (.o (.hd 0 0))), (3, [], .c (.o (.hd 1 0))), (5, [], .c (.o (.val (.int .i64 d)))), (6, [], .c (.o (.val (.int .i64 i))))], [], [.cells 58 [.val (.bool a_minus), .val (.string a_whole), .val (.string a_digits), .val (.int .i64 a_point), .val (.bool a_plain), .val (.bool a_down), .val (.string a_exp)], .cells 58 [.val (.bool b_minus), .val (.string b_whole), .val (.string b_digits), .val (.int .i64 b_point), .val (.bool b_plain), .val (.bool b_down), .val (.string b_exp)]]⟩ kn kx kr = (decimal_apart_p0 d i a_down a_exp b_down b_exp).bind fun r => (Sum.elim (fun (r_0 : Int) => kr ⟨[(4, [], .c (.o (.val (.int .i64 r_0))))], [], []⟩) (fun (r_1 : Int) => kx 0 ⟨[(5, [], .c (.o (.val (.int .i64 r_1))))], [], []⟩)) r := by
  refine loop_piece (step := fun x => decimal_apart_p0_step x.1 x.2 a_down a_exp b_down b_exp) (enc := fun x => ⟨[(2, [], .c (.o (.hd 0 0))), (3, [], .c (.o (.hd 1 0))), (5, [], .c (.o (.val (.int .i64 x.1)))), (6, [], .c (.o (.val (.int .i64 x.2))))], [], [.cells 58 [.val (.bool a_minus), .val (.string a_whole), .val (.string a_digits), .val (.int .i64 a_point), .val (.bool a_plain), .val (.bool a_down), .val (.string a_exp)], .cells 58 [.val (.bool b_minus), .val (.string b_whole), .val (.string b_digits), .val (.int .i64 b_point), .val (.bool b_plain), .val (.bool b_down), .val (.string b_exp)]]⟩) (ko := fun r => (Sum.elim (fun (r_0 : Int) => kr ⟨[(4, [], .c (.o (.val (.int .i64 r_0))))], [], []⟩) (fun (r_1 : Int) => kx 0 ⟨[(5, [], .c (.o (.val (.int .i64 r_1))))], [], []⟩)) r) ?_ ?_ (d, i)
  · intro x; kernel_rfl
  · intro x ki; simp only [decimal_apart_p0_step, -eq_self, bind_cond, bind_gd, Option.bind_assoc, Option.bind_some, Sum.elim_inl, Sum.elim_inr, bind_elim]; kernel_rfl
theorem decimal_apart_sub0 : SubOK decimal_apart_L decimal_apart_G 0 9 53 0 decimal_apart_b0 := sub_ok' decimal_apart_d0 (fun x R kn kx kr => (decimal_apart_p0 x.1.2.2.1 x.1.2.2.2.1 x.2.1.2.2.2.2.2.1 x.2.1.2.2.2.2.2.2.1 x.2.2.1.2.2.2.2.2.1 x.2.2.1.2.2.2.2.2.2.1).bind fun r => (Sum.elim (fun (r_0 : Int) => kr ⟨[(4, [], .c (.o (.val (.int .i64 r_0))))], [], []⟩) (fun (r_1 : Int) => kx 0 ⟨[(5, [], .c (.o (.val (.int .i64 r_1))))], [], []⟩)) r) (by kernel_rfl) fun x R kn kx kr => decimal_apart_p0_eq x.1.2.2.1 x.1.2.2.2.1 x.2.1.1 x.2.1.2.1 x.2.1.2.2.1 x.2.1.2.2.2.1 x.2.1.2.2.2.2.1 x.2.1.2.2.2.2.2.1 x.2.1.2.2.2.2.2.2.1 x.2.2.1.1 x.2.2.1.2.1 x.2.2.1.2.2.1 x.2.2.1.2.2.2.1 x.2.2.1.2.2.2.2.1 x.2.2.1.2.2.2.2.2.1 x.2.2.1.2.2.2.2.2.2.1 R kn kx kr
theorem decimal_apart_subs : subsOK decimal_apart_L decimal_apart_G 0 9 53 decimal_apart_q := subs_of (show AllSub decimal_apart_L decimal_apart_G 0 9 53 [(0, decimal_apart_b0), (1, decimal_apart_b1), (2, decimal_apart_b2)] from ⟨decimal_apart_sub0, decimal_apart_sub1, decimal_apart_sub2, trivial⟩)
theorem decimal_apart_eq (a : decimal_number) (b : decimal_number) (R : Type) (k : SV → List SB → Option R) :
    fnQ decimal_apart_L decimal_apart_G 9 53 decimal_apart_q [.tmp 4] [.c (.agg [.val (.bool a.minus), .val (.string a.whole), .val (.string a.digits), .val (.int .i64 a.point), .val (.bool a.plain), .val (.bool a.down), .val (.string a.exp_)]), .c (.agg [.val (.bool b.minus), .val (.string b.whole), .val (.string b.digits), .val (.int .i64 b.point), .val (.bool b.plain), .val (.bool b.down), .val (.string b.exp_)])] [] k = (decimal_apart_s a b).bind fun r => k (.c (.o (.val (.int .i64 r)))) [] := by
  simp only [decimal_apart_s, -eq_self, bind_cond, bind_gd, Option.bind_assoc, Option.bind_some, Sum.elim_inl, Sum.elim_inr, bind_elim]
  kernel_rfl
def decimal_apart_da := (dCons (dVC (dCA (dCons dB (dCons dS (dCons dS (dCons (dI .i64) (dCons dB (dCons dB (dCons dS dNil))))))))) (dCons (dVC (dCA (dCons dB (dCons dS (dCons dS (dCons (dI .i64) (dCons dB (dCons dB (dCons dS dNil))))))))) dNil))
def decimal_apart_db := (dNil : Dec Unit (List SB))
noncomputable def decimal_apart_c : CS := fun args hp R k => (Dec.d decimal_apart_da args).bind fun x => (Dec.d decimal_apart_db hp).bind fun y => (decimal_apart_s (⟨x.1.1, x.1.2.1, x.1.2.2.1, x.1.2.2.2.1, x.1.2.2.2.2.1, x.1.2.2.2.2.2.1, x.1.2.2.2.2.2.2.1⟩ : decimal_number) (⟨x.2.1.1, x.2.1.2.1, x.2.1.2.2.1, x.2.1.2.2.2.1, x.2.1.2.2.2.2.1, x.2.1.2.2.2.2.2.1, x.2.1.2.2.2.2.2.2.1⟩ : decimal_number)).bind fun r => k (.c (.o (.val (.int .i64 r)))) []
theorem decimal_apart_val : ValidS Tryd.prog 40 decimal_apart_c :=
  val_ok decimal_apart_chk 9 decimal_apart_Gok decimal_apart_da decimal_apart_db 0 (fun x y R k => (decimal_apart_s (⟨x.1.1, x.1.2.1, x.1.2.2.1, x.1.2.2.2.1, x.1.2.2.2.2.1, x.1.2.2.2.2.2.1, x.1.2.2.2.2.2.2.1⟩ : decimal_number) (⟨x.2.1.1, x.2.1.2.1, x.2.1.2.2.1, x.2.1.2.2.2.1, x.2.1.2.2.2.2.1, x.2.1.2.2.2.2.2.1, x.2.1.2.2.2.2.2.2.1⟩ : decimal_number)).bind fun r => k (.c (.o (.val (.int .i64 r)))) []) (by kernel_rfl)
    (fun x y R k => by simp only [Option.bind_assoc, Option.bind_some]) (fun x => Nat.le_of_ble_eq_true rfl) (fun y => rfl) decimal_apart_subs fun x y => decimal_apart_eq (⟨x.1.1, x.1.2.1, x.1.2.2.1, x.1.2.2.2.1, x.1.2.2.2.2.1, x.1.2.2.2.2.2.1, x.1.2.2.2.2.2.2.1⟩ : decimal_number) (⟨x.2.1.1, x.2.1.2.1, x.2.1.2.2.1, x.2.1.2.2.2.1, x.2.1.2.2.2.2.1, x.2.1.2.2.2.2.2.1, x.2.1.2.2.2.2.2.2.1⟩ : decimal_number) _ _
noncomputable def decimal_apart_w : CQ := liftV [] decimal_apart_c
theorem decimal_apart_ok : ValidQ Tryd.prog 40 decimal_apart_w := liftV_valid decimal_apart_val

/-! ### internal/bytealg.CompareString -/
def internal_bytealg_CompareString_q : IQ :=
  (.seq
  (.reg 4 none [
    ⟨(some 4), .mv (.v (.int .i64 0)), none⟩])
  (.seq
  (.reg 4 none [
    ⟨(some 5), .mv (.t 0), none⟩,
    ⟨(some 6), .mv (.t 1), none⟩,
    ⟨(some 7), .ext .cmpStr [(.t 5), (.t 6)], none⟩,
    ⟨(some 4), .mv (.t 7), none⟩])
  (.canon [] [4] .ret)))
theorem internal_bytealg_CompareString_chk : chk Tryd.prog 72 [] = some (internal_bytealg_CompareString_q.erase, [.tmp 4], 8) := by kernel_rfl
noncomputable def internal_bytealg_CompareString_s (a : ByteArray) (b : ByteArray) : Option Int :=
  some (Lib.compareBytes a.data.toList b.data.toList)
noncomputable def internal_bytealg_CompareString_G : Nat → Option CQ := tblQ []
theorem internal_bytealg_CompareString_Gok : ∀ f C, internal_bytealg_CompareString_G f = some C → ValidQ Tryd.prog f C := fun f C h => by cases h
noncomputable def internal_bytealg_CompareString_L : Nat → SubQ := tblL []
theorem internal_bytealg_CompareString_subs : subsOK internal_bytealg_CompareString_L internal_bytealg_CompareString_G 0 5 8 internal_bytealg_CompareString_q := subs_of (show AllSub internal_bytealg_CompareString_L internal_bytealg_CompareString_G 0 5 8 [] from trivial)
theorem internal_bytealg_CompareString_eq (a : ByteArray) (b : ByteArray) (R : Type) (k : SV → List SB → Option R) :
    fnQ internal_bytealg_CompareString_L internal_bytealg_CompareString_G 5 8 internal_bytealg_CompareString_q [.tmp 4] [.c (.o (.val (.string a))), .c (.o (.val (.string b)))] [] k = (internal_bytealg_CompareString_s a b).bind fun r => k (.c (.o (.val (.int .i64 r)))) [] := by
  simp only [internal_bytealg_CompareString_s, -eq_self, bind_cond, bind_gd, Option.bind_assoc, Option.bind_some, Sum.elim_inl, Sum.elim_inr, bind_elim]
  kernel_rfl
def internal_bytealg_CompareString_da := (dCons (dVC (dCO dS)) (dCons (dVC (dCO dS)) dNil))
def internal_bytealg_CompareString_db := (dNil : Dec Unit (List SB))
noncomputable def internal_bytealg_CompareString_c : CS := fun args hp R k => (Dec.d internal_bytealg_CompareString_da args).bind fun x => (Dec.d internal_bytealg_CompareString_db hp).bind fun y => (internal_bytealg_CompareString_s x.1 x.2.1).bind fun r => k (.c (.o (.val (.int .i64 r)))) []
theorem internal_bytealg_CompareString_val : ValidS Tryd.prog 72 internal_bytealg_CompareString_c :=
  val_ok internal_bytealg_CompareString_chk 5 internal_bytealg_CompareString_Gok internal_bytealg_CompareString_da internal_bytealg_CompareString_db 0 (fun x y R k => (internal_bytealg_CompareString_s x.1 x.2.1).bind fun r => k (.c (.o (.val (.int .i64 r)))) []) (by kernel_rfl)
    (fun x y R k => by simp only [Option.bind_assoc, Option.bind_some]) (fun x => Nat.le_of_ble_eq_true rfl) (fun y => rfl) internal_bytealg_CompareString_subs fun x y => internal_bytealg_CompareString_eq x.1 x.2.1 _ _
noncomputable def internal_bytealg_CompareString_w : CQ := liftV [] internal_bytealg_CompareString_c
theorem internal_bytealg_CompareString_ok : ValidQ Tryd.prog 72 internal_bytealg_CompareString_w := liftV_valid internal_bytealg_CompareString_val

/-! ### strings.Compare -/
def strings_Compare_q : IQ :=
  (.seq
  (.reg 4 none [
    ⟨(some 4), .mv (.v (.int .i64 0)), none⟩])
  (.seq
  (.reg 4 none [
    ⟨(some 5), .mv (.t 0), none⟩,
    ⟨(some 6), .mv (.t 1), none⟩,
    ⟨(some 7), .call 72 [(.t 5), (.t 6)], none⟩,
    ⟨(some 4), .mv (.t 7), none⟩])
  (.canon [] [4] .ret)))
theorem strings_Compare_chk : chk Tryd.prog 54 [] = some (strings_Compare_q.erase, [.tmp 4], 8) := by kernel_rfl
noncomputable def strings_Compare_s (a : ByteArray) (b : ByteArray) : Option Int :=
  (internal_bytealg_CompareString_s a b).bind fun r1 =>
  some r1
noncomputable def strings_Compare_G : Nat → Option CQ := tblQ [(72, internal_bytealg_CompareString_w)]
theorem strings_Compare_Gok : ∀ f C, strings_Compare_G f = some C → ValidQ Tryd.prog f C := tblQ_valid ⟨internal_bytealg_CompareString_ok, trivial⟩
noncomputable def strings_Compare_L : Nat → SubQ := tblL []
theorem strings_Compare_subs : subsOK strings_Compare_L strings_Compare_G 0 5 8 strings_Compare_q := subs_of (show AllSub strings_Compare_L strings_Compare_G 0 5 8 [] from trivial)
theorem strings_Compare_eq (a : ByteArray) (b : ByteArray) (R : Type) (k : SV → List SB → Option R) :
    fnQ strings_Compare_L strings_Compare_G 5 8 strings_Compare_q [.tmp 4] [.c (.o (.val (.string a))), .c (.o (.val (.string b)))] [] k = (strings_Compare_s a b).bind fun r => k (.c (.o (.val (.int .i64 r)))) [] := by
  simp only [strings_Compare_s, -eq_self, bind_cond, bind_gd, Option.bind_assoc, Option.bind_some, Sum.elim_inl, Sum.elim_inr, bind_elim]
  kernel_rfl
def strings_Compare_da := (dCons (dVC (dCO dS)) (dCons (dVC (dCO dS)) dNil))
def strings_Compare_db := (dNil : Dec Unit (List SB))
noncomputable def strings_Compare_c : CS := fun args hp R k => (Dec.d strings_Compare_da args).bind fun x => (Dec.d strings_Compare_db hp).bind fun y => (strings_Compare_s x.1 x.2.1).bind fun r => k (.c (.o (.val (.int .i64 r)))) []
theorem strings_Compare_val : ValidS Tryd.prog 54 strings_Compare_c :=
  val_ok strings_Compare_chk 5 strings_Compare_Gok strings_Compare_da strings_Compare_db 0 (fun x y R k => (strings_Compare_s x.1 x.2.1).bind fun r => k (.c (.o (.val (.int .i64 r)))) []) (by kernel_rfl)
    (fun x y R k => by simp only [Option.bind_assoc, Option.bind_some]) (fun x => Nat.le_of_ble_eq_true rfl) (fun y => rfl) strings_Compare_subs fun x y => strings_Compare_eq x.1 x.2.1 _ _
noncomputable def strings_Compare_w : CQ := liftV [] strings_Compare_c
theorem strings_Compare_ok : ValidQ Tryd.prog 54 strings_Compare_w := liftV_valid strings_Compare_val

/-! ### signet/decimal.size -/
def decimal_size_q : IQ :=
  (.seq
  (.reg 4 none [
    ⟨(some 2), .box 58 7 (.t 0), none⟩,
    ⟨(some 3), .box 58 7 (.t 1), none⟩,
    ⟨(some 4), .mv (.v (.int .i64 0)), none⟩])
  (.seq
  (.seq
  (.reg 13 none [
    ⟨(some 6), .faddr 2 (.t 2), none⟩,
    ⟨(some 7), .load none (.t 6), none⟩,
    ⟨(some 8), .bin false .eql (.t 7) (.v (.string ⟨#[]⟩)), none⟩,
    ⟨(some 9), .mv (.t 8), none⟩,
    ⟨(some 10), .faddr 2 (.t 3), some (9, false)⟩,
    ⟨(some 11), .load none (.t 10), some (9, false)⟩,
    ⟨(some 12), .bin false .eql (.t 11) (.v (.string ⟨#[]⟩)), some (9, false)⟩,
    ⟨(some 13), .pick (.t 9) (.v (.bool true)) (.t 12), none⟩])
  (.cond (.t 13)
    (.seq
    (.reg 4 none [
      ⟨(some 14), .faddr 2 (.t 2), none⟩,
      ⟨(some 15), .load none (.t 14), none⟩,
      ⟨(some 16), .lenS (.t 15), none⟩,
      ⟨(some 17), .mm false (.t 16) (.v (.int .i64 1)), none⟩,
      ⟨(some 18), .faddr 2 (.t 3), none⟩,
      ⟨(some 19), .load none (.t 18), none⟩,
      ⟨(some 20), .lenS (.t 19), none⟩,
      ⟨(some 21), .mm false (.t 20) (.v (.int .i64 1)), none⟩,
      ⟨(some 22), .bin false .sub (.t 17) (.t 21), none⟩,
      ⟨(some 4), .mv (.t 22), none⟩])
    (.canon [] [4] .ret))
    .skip))
  (.seq
  (.seq
  (.reg 5 (some [0, 1, 3, 4, 6, 7, 2, 5, 8, 9]) [
    ⟨(some 23), .load (some 7) (.t 2), none⟩,
    ⟨(some 24), .load (some 7) (.t 3), none⟩,
    ⟨(some 26), .faddr 3 (.t 2), none⟩,
    ⟨(some 27), .load none (.t 26), none⟩,
    ⟨(some 29), .faddr 3 (.t 3), none⟩,
    ⟨(some 30), .load none (.t 29), none⟩,
    ⟨(some 25), .call 40 [(.t 23), (.t 24)], none⟩,
    ⟨(some 28), .bin false .add (.t 25) (.t 27), none⟩,
    ⟨(some 31), .bin false .sub (.t 28) (.t 30), none⟩,
    ⟨(some 5), .mv (.t 31), none⟩])
  (.seq
  (.reg 33 none [
    ⟨(some 32), .mv (.t 5), none⟩,
    ⟨(some 33), .bin false .neq (.t 32) (.v (.int .i64 0)), none⟩])
  (.cond (.t 33)
    (.seq
    (.reg 4 none [
      ⟨(some 34), .mv (.t 5), none⟩,
      ⟨(some 35), .mm false (.v (.int .i64 1)) (.t 34), none⟩,
      ⟨(some 36), .mm true (.v (.int .i64 (-1))) (.t 35), none⟩,
      ⟨(some 4), .mv (.t 36), none⟩])
    (.canon [] [4] .ret))
    .skip)))
  (.seq
  (.reg 4 none [
    ⟨(some 37), .faddr 2 (.t 2), none⟩,
    ⟨(some 38), .load none (.t 37), none⟩,
    ⟨(some 39), .faddr 2 (.t 3), none⟩,
    ⟨(some 40), .load none (.t 39), none⟩,
    ⟨(some 41), .call 54 [(.t 38), (.t 40)], none⟩,
    ⟨(some 4), .mv (.t 41), none⟩])
  (.canon [] [4] .ret)))))
theorem decimal_size_chk : chk Tryd.prog 38 [] = some (decimal_size_q.erase, [.tmp 4], 42) := by kernel_rfl
noncomputable def decimal_size_s (a : decimal_number) (b : decimal_number) : Option Int :=
  bif ((decide (a.digits = (⟨#[]⟩ : ByteArray))) || (decide (b.digits = (⟨#[]⟩ : ByteArray)))) then (
    gd (InI64 ((if (1 : Int) < (a.digits.size : Int) then (1 : Int) else (a.digits.size : Int)) - (if (1 : Int) < (b.digits.size : Int) then (1 : Int) else (b.digits.size : Int)))) <|
    some ((if (1 : Int) < (a.digits.size : Int) then (1 : Int) else (a.digits.size : Int)) - (if (1 : Int) < (b.digits.size : Int) then (1 : Int) else (b.digits.size : Int))))
  else (
    (decimal_apart_s a b).bind fun r1 =>
    gd (InI64 (r1 + a.point)) <|
    gd (InI64 ((r1 + a.point) - b.point)) <|
    bif (!decide (((r1 + a.point) - b.point) = (0 : Int))) then (
      some (if (if ((r1 + a.point) - b.point) < (1 : Int) then ((r1 + a.point) - b.point) else (1 : Int)) > (-1 : Int) then (if ((r1 + a.point) - b.point) < (1 : Int) then ((r1 + a.point) - b.point) else (1 : Int)) else (-1 : Int)))
    else (
      (strings_Compare_s a.digits b.digits).bind fun r2 =>
      some r2))
noncomputable def decimal_size_G : Nat → Option CQ := tblQ [(40, decimal_apart_w), (54, strings_Compare_w)]
theorem decimal_size_Gok : ∀ f C, decimal_size_G f = some C → ValidQ Tryd.prog f C := tblQ_valid ⟨decimal_apart_ok, strings_Compare_ok, trivial⟩
noncomputable def decimal_size_L : Nat → SubQ := tblL []
theorem decimal_size_subs : subsOK decimal_size_L decimal_size_G 0 6 42 decimal_size_q := subs_of (show AllSub decimal_size_L decimal_size_G 0 6 42 [] from trivial)
theorem decimal_size_eq (a : decimal_number) (b : decimal_number) (R : Type) (k : SV → List SB → Option R) :
    fnQ decimal_size_L decimal_size_G 6 42 decimal_size_q [.tmp 4] [.c (.agg [.val (.bool a.minus), .val (.string a.whole), .val (.string a.digits), .val (.int .i64 a.point), .val (.bool a.plain), .val (.bool a.down), .val (.string a.exp_)]), .c (.agg [.val (.bool b.minus), .val (.string b.whole), .val (.string b.digits), .val (.int .i64 b.point), .val (.bool b.plain), .val (.bool b.down), .val (.string b.exp_)])] [] k = (decimal_size_s a b).bind fun r => k (.c (.o (.val (.int .i64 r)))) [] := by
  simp only [decimal_size_s, -eq_self, bind_cond, bind_gd, Option.bind_assoc, Option.bind_some, Sum.elim_inl, Sum.elim_inr, bind_elim]
  kernel_rfl
def decimal_size_da := (dCons (dVC (dCA (dCons dB (dCons dS (dCons dS (dCons (dI .i64) (dCons dB (dCons dB (dCons dS dNil))))))))) (dCons (dVC (dCA (dCons dB (dCons dS (dCons dS (dCons (dI .i64) (dCons dB (dCons dB (dCons dS dNil))))))))) dNil))
def decimal_size_db := (dNil : Dec Unit (List SB))
noncomputable def decimal_size_c : CS := fun args hp R k => (Dec.d decimal_size_da args).bind fun x => (Dec.d decimal_size_db hp).bind fun y => (decimal_size_s (⟨x.1.1, x.1.2.1, x.1.2.2.1, x.1.2.2.2.1, x.1.2.2.2.2.1, x.1.2.2.2.2.2.1, x.1.2.2.2.2.2.2.1⟩ : decimal_number) (⟨x.2.1.1, x.2.1.2.1, x.2.1.2.2.1, x.2.1.2.2.2.1, x.2.1.2.2.2.2.1, x.2.1.2.2.2.2.2.1, x.2.1.2.2.2.2.2.2.1⟩ : decimal_number)).bind fun r => k (.c (.o (.val (.int .i64 r)))) []
theorem decimal_size_val : ValidS Tryd.prog 38 decimal_size_c :=
  val_ok decimal_size_chk 6 decimal_size_Gok decimal_size_da decimal_size_db 0 (fun x y R k => (decimal_size_s (⟨x.1.1, x.1.2.1, x.1.2.2.1, x.1.2.2.2.1, x.1.2.2.2.2.1, x.1.2.2.2.2.2.1, x.1.2.2.2.2.2.2.1⟩ : decimal_number) (⟨x.2.1.1, x.2.1.2.1, x.2.1.2.2.1, x.2.1.2.2.2.1, x.2.1.2.2.2.2.1, x.2.1.2.2.2.2.2.1, x.2.1.2.2.2.2.2.2.1⟩ : decimal_number)).bind fun r => k (.c (.o (.val (.int .i64 r)))) []) (by kernel_rfl)
    (fun x y R k => by simp only [Option.bind_assoc, Option.bind_some]) (fun x => Nat.le_of_ble_eq_true rfl) (fun y => rfl) decimal_size_subs fun x y => decimal_size_eq (⟨x.1.1, x.1.2.1, x.1.2.2.1, x.1.2.2.2.1, x.1.2.2.2.2.1, x.1.2.2.2.2.2.1, x.1.2.2.2.2.2.2.1⟩ : decimal_number) (⟨x.2.1.1, x.2.1.2.1, x.2.1.2.2.1, x.2.1.2.2.2.1, x.2.1.2.2.2.2.1, x.2.1.2.2.2.2.2.1, x.2.1.2.2.2.2.2.2.1⟩ : decimal_number) _ _
noncomputable def decimal_size_w : CQ := liftV [] decimal_size_c
theorem decimal_size_ok : ValidQ Tryd.prog 38 decimal_size_w := liftV_valid decimal_size_val

/-! ### signet/decimal.Compare -/
def decimal_Compare_b1 : IQ :=
  (.seq
  (.block 0
    (.seq
    (.reg 34 none [
      ⟨(some 35), .faddr 0 (.t 6), none⟩,
      ⟨(some 36), .load none (.t 35), none⟩,
      ⟨(some 37), .mv (.t 36), none⟩,
      ⟨(some 38), .faddr 0 (.t 8), some (37, true)⟩,
      ⟨(some 39), .load none (.t 38), some (37, true)⟩,
      ⟨(some 40), .un .not (.t 39), some (37, true)⟩,
      ⟨(some 41), .pick (.t 37) (.t 40) (.v (.bool false)), none⟩,
      ⟨(some 34), .mv (.t 41), none⟩])
    (.cond (.t 34)
      (.seq
      (.reg 5 none [
        ⟨(some 4), .mv (.v (.int .i64 (-1))), none⟩,
        ⟨(some 5), .mv (.v (.int .i64 0)), none⟩])
      (.canon [] [4, 5] .ret))
      (.seq
      (.reg 42 none [
        ⟨(some 43), .faddr 0 (.t 6), none⟩,
        ⟨(some 44), .load none (.t 43), none⟩,
        ⟨(some 45), .un .not (.t 44), none⟩,
        ⟨(some 46), .mv (.t 45), none⟩,
        ⟨(some 47), .faddr 0 (.t 8), some (46, true)⟩,
        ⟨(some 48), .load none (.t 47), some (46, true)⟩,
        ⟨(some 49), .pick (.t 46) (.t 48) (.v (.bool false)), none⟩,
        ⟨(some 42), .mv (.t 49), none⟩])
      (.cond (.t 42)
        (.seq
        (.reg 5 none [
          ⟨(some 4), .mv (.v (.int .i64 1)), none⟩,
          ⟨(some 5), .mv (.v (.int .i64 0)), none⟩])
        (.canon [] [4, 5] .ret))
        (.seq
        (.reg 50 none [
          ⟨(some 51), .faddr 0 (.t 6), none⟩,
          ⟨(some 52), .load none (.t 51), none⟩,
          ⟨(some 50), .mv (.t 52), none⟩])
        (.cond (.t 50)
          (.seq
          (.reg 5 none [
            ⟨(some 53), .load (some 7) (.t 8), none⟩,
            ⟨(some 54), .load (some 7) (.t 6), none⟩,
            ⟨(some 55), .call 38 [(.t 53), (.t 54)], none⟩,
            ⟨(some 4), .mv (.t 55), none⟩,
            ⟨(some 5), .mv (.v (.int .i64 0)), none⟩])
          (.canon [] [4, 5] .ret))
          .skip)))))))
  (.seq
  (.reg 5 none [
    ⟨(some 56), .load (some 7) (.t 6), none⟩,
    ⟨(some 57), .load (some 7) (.t 8), none⟩,
    ⟨(some 58), .call 38 [(.t 56), (.t 57)], none⟩,
    ⟨(some 4), .mv (.t 58), none⟩,
    ⟨(some 5), .mv (.v (.int .i64 0)), none⟩])
  (.canon [] [4, 5] .ret)))
def decimal_Compare_b0 : IQ :=
  (.seq
  (.seq
  (.reg 32 none [
    ⟨(some 30), .faddr 2 (.t 8), none⟩,
    ⟨(some 31), .load none (.t 30), none⟩,
    ⟨(some 32), .bin false .eql (.t 31) (.v (.string ⟨#[]⟩)), none⟩])
  (.cond (.t 32)
    (.reg 0 none [
      ⟨(some 33), .faddr 0 (.t 8), none⟩,
      ⟨none, .store 1 (.t 33) (.v (.bool false)), none⟩])
    .skip))
  (.canon [] [6, 8] (.sub 1 decimal_Compare_b1)))
def decimal_Compare_q : IQ :=
  (.seq
  (.reg 5 none [
    ⟨(some 4), .mv (.v (.int .i64 0)), none⟩,
    ⟨(some 5), .mv (.v (.int .i64 0)), none⟩])
  (.seq
  (.reg 7 none [
    ⟨(some 11), .mv (.t 0), none⟩,
    ⟨(some 12), .call 36 [(.t 11), (.v (.int .i64 0))], none⟩,
    ⟨(some 10), .mv (.t 12), none⟩,
    ⟨(some 13), .extract (.t 10) 0, none⟩,
    ⟨(some 14), .extract (.t 10) 1, none⟩,
    ⟨(some 6), .alloc 58 [.bool false, .string ⟨#[]⟩, .string ⟨#[]⟩, .int .i64 0, .bool false, .bool false, .string ⟨#[]⟩], none⟩,
    ⟨none, .store 7 (.t 6) (.t 13), none⟩,
    ⟨(some 7), .mv (.t 14), none⟩])
  (.seq
  (.reg 9 none [
    ⟨(some 16), .mv (.t 1), none⟩,
    ⟨(some 17), .call 36 [(.t 16), (.v (.int .i64 0))], none⟩,
    ⟨(some 15), .mv (.t 17), none⟩,
    ⟨(some 18), .extract (.t 15) 0, none⟩,
    ⟨(some 19), .extract (.t 15) 1, none⟩,
    ⟨(some 8), .alloc 58 [.bool false, .string ⟨#[]⟩, .string ⟨#[]⟩, .int .i64 0, .bool false, .bool false, .string ⟨#[]⟩], none⟩,
    ⟨none, .store 7 (.t 8) (.t 18), none⟩,
    ⟨(some 9), .mv (.t 19), none⟩])
  (.seq
  (.seq
  (.reg 25 none [
    ⟨(some 20), .mv (.t 7), none⟩,
    ⟨(some 21), .un .not (.t 20), none⟩,
    ⟨(some 22), .mv (.t 21), none⟩,
    ⟨(some 23), .mv (.t 9), some (22, false)⟩,
    ⟨(some 24), .un .not (.t 23), some (22, false)⟩,
    ⟨(some 25), .pick (.t 22) (.v (.bool true)) (.t 24), none⟩])
  (.cond (.t 25)
    (.seq
    (.reg 5 none [
      ⟨(some 4), .mv (.v (.int .i64 0)), none⟩,
      ⟨(some 5), .mv (.v (.int .i64 30)), none⟩])
    (.canon [] [4, 5] .ret))
    .skip))
  (.seq
  (.seq
  (.reg 28 none [
    ⟨(some 26), .faddr 2 (.t 6), none⟩,
    ⟨(some 27), .load none (.t 26), none⟩,
    ⟨(some 28), .bin false .eql (.t 27) (.v (.string ⟨#[]⟩)), none⟩])
  (.cond (.t 28)
    (.reg 0 none [
      ⟨(some 29), .faddr 0 (.t 6), none⟩,
      ⟨none, .store 1 (.t 29) (.v (.bool false)), none⟩])
    .skip))
  (.canon [] [6, 8] (.sub 0 decimal_Compare_b0)))))))
theorem decimal_Compare_chk : chk Tryd.prog 19 [] = some (decimal_Compare_q.erase, [.tmp 4, .tmp 5], 59) := by kernel_rfl
noncomputable def decimal_Compare_p1 (x__minus : Bool) (x__whole : ByteArray) (x__digits : ByteArray) (x__point : Int) (x__plain : Bool) (x__down : Bool) (x__exp : ByteArray) (y__minus : Bool) (y__whole : ByteArray) (y__digits : ByteArray) (y__point : Int) (y__plain : Bool) (y__down : Bool) (y__exp : ByteArray) : Option (Int × Int) :=
  bif (x__minus && (!y__minus)) then (
    some ((-1 : Int), (0 : Int)))
  else (
    bif ((!x__minus) && y__minus) then (
      some ((1 : Int), (0 : Int)))
    else (
      bif x__minus then (
        (decimal_size_s (⟨y__minus, y__whole, y__digits, y__point, y__plain, y__down, y__exp⟩ : decimal_number) (⟨x__minus, x__whole, x__digits, x__point, x__plain, x__down, x__exp⟩ : decimal_number)).bind fun r3 =>
        some (r3, (0 : Int)))
      else (
        (decimal_size_s (⟨x__minus, x__whole, x__digits, x__point, x__plain, x__down, x__exp⟩ : decimal_number) (⟨y__minus, y__whole, y__digits, y__point, y__plain, y__down, y__exp⟩ : decimal_number)).bind fun r4 =>
        some (r4, (0 : Int)))))
noncomputable def decimal_Compare_p0 (x__minus : Bool) (x__whole : ByteArray) (x__digits : ByteArray) (x__point : Int) (x__plain : Bool) (x__down : Bool) (x__exp : ByteArray) (y__minus : Bool) (y__whole : ByteArray) (y__digits : ByteArray) (y__point : Int) (y__plain : Bool) (y__down : Bool) (y__exp : ByteArray) : Option (Int × Int) :=
  bif decide (y__digits = (⟨#[]⟩ : ByteArray)) then (
    (decimal_Compare_p1 x__minus x__whole x__digits x__point x__plain x__down x__exp false y__whole y__digits y__point y__plain y__down y__exp).bind fun o5 =>
    some (o5.1, o5.2))
  else (
    (decimal_Compare_p1 x__minus x__whole x__digits x__point x__plain x__down x__exp y__minus y__whole y__digits y__point y__plain y__down y__exp).bind fun o6 =>
    some (o6.1, o6.2))
noncomputable def decimal_Compare_s (a : ByteArray) (b : ByteArray) : Option (Int × Int) :=
  (decimal_read_s a (0 : Int)).bind fun r1 =>
  (decimal_read_s b (0 : Int)).bind fun r2 =>
  bif ((!r1.2) || (!r2.2)) then (
    some ((0 : Int), (30 : Int)))
  else (
    bif decide (r1.1.digits = (⟨#[]⟩ : ByteArray)) then (
      (decimal_Compare_p0 false r1.1.whole r1.1.digits r1.1.point r1.1.plain r1.1.down r1.1.exp_ r2.1.minus r2.1.whole r2.1.digits r2.1.point r2.1.plain r2.1.down r2.1.exp_).bind fun o7 =>
      some (o7.1, o7.2))
    else (
      (decimal_Compare_p0 r1.1.minus r1.1.whole r1.1.digits r1.1.point r1.1.plain r1.1.down r1.1.exp_ r2.1.minus r2.1.whole r2.1.digits r2.1.point r2.1.plain r2.1.down r2.1.exp_).bind fun o8 =>
      some (o8.1, o8.2)))
noncomputable def decimal_Compare_G : Nat → Option CQ := tblQ [(36, decimal_read_w), (38, decimal_size_w)]
theorem decimal_Compare_Gok : ∀ f C, decimal_Compare_G f = some C → ValidQ Tryd.prog f C := tblQ_valid ⟨decimal_read_ok, decimal_size_ok, trivial⟩
def decimal_Compare_d1 := (dQS (dCons (dSl 6 (dVC (dCO (dH 0 0)))) (dCons (dSl 8 (dVC (dCO (dH 1 0)))) dNil)) (dCons (dCells 58 (dCons dB (dCons dS (dCons dS (dCons (dI .i64) (dCons dB (dCons dB (dCons dS dNil)))))))) (dCons (dCells 58 (dCons dB (dCons dS (dCons dS (dCons (dI .i64) (dCons dB (dCons dB (dCons dS dNil)))))))) dNil)))
noncomputable def decimal_Compare_l1 : SubQ := fun S R kn kx kr => (Dec.d decimal_Compare_d1 S).bind fun x => (decimal_Compare_p1 x.2.1.1 x.2.1.2.1 x.2.1.2.2.1 x.2.1.2.2.2.1 x.2.1.2.2.2.2.1 x.2.1.2.2.2.2.2.1 x.2.1.2.2.2.2.2.2.1 x.2.2.1.1 x.2.2.1.2.1 x.2.2.1.2.2.1 x.2.2.1.2.2.2.1 x.2.2.1.2.2.2.2.1 x.2.2.1.2.2.2.2.2.1 x.2.2.1.2.2.2.2.2.2.1).bind fun r => kr ⟨[(4, [], .c (.o (.val (.int .i64 r.1)))), (5, [], .c (.o (.val (.int .i64 r.2))))], [], []⟩
def decimal_Compare_d0 := (dQS (dCons (dSl 6 (dVC (dCO (dH 0 0)))) (dCons (dSl 8 (dVC (dCO (dH 1 0)))) dNil)) (dCons (dCells 58 (dCons dB (dCons dS (dCons dS (dCons (dI .i64) (dCons dB (dCons dB (dCons dS dNil)))))))) (dCons (dCells 58 (dCons dB (dCons dS (dCons dS (dCons (dI .i64) (dCons dB (dCons dB (dCons dS dNil)))))))) dNil)))
noncomputable def decimal_Compare_l0 : SubQ := fun S R kn kx kr => (Dec.d decimal_Compare_d0 S).bind fun x => (decimal_Compare_p0 x.2.1.1 x.2.1.2.1 x.2.1.2.2.1 x.2.1.2.2.2.1 x.2.1.2.2.2.2.1 x.2.1.2.2.2.2.2.1 x.2.1.2.2.2.2.2.2.1 x.2.2.1.1 x.2.2.1.2.1 x.2.2.1.2.2.1 x.2.2.1.2.2.2.1 x.2.2.1.2.2.2.2.1 x.2.2.1.2.2.2.2.2.1 x.2.2.1.2.2.2.2.2.2.1).bind fun r => kr ⟨[(4, [], .c (.o (.val (.int .i64 r.1)))), (5, [], .c (.o (.val (.int .i64 r.2))))], [], []⟩
noncomputable def decimal_Compare_L : Nat → SubQ := tblL [(1, decimal_Compare_l1), (0, decimal_Compare_l0)]
theorem decimal_Compare_p1_eq (x__minus : Bool) (x__whole : ByteArray) (x__digits : ByteArray) (x__point : Int) (x__plain : Bool) (x__down : Bool) (x__exp : ByteArray) (y__minus : Bool) (y__whole : ByteArray) (y__digits : ByteArray) (y__point : Int) (y__plain : Bool) (y__down : Bool) (y__exp : ByteArray) (R : Type) (kn : QS → Option R) (kx : Nat → QS → Option R) (kr : QS → Option R) :
    interpQ decimal_Compare_L decimal_Compare_G 0 10 59 decimal_Compare_b1 ⟨[(6, [], .c (.o (.hd 0 0))), (8, [], .c (.o (.hd 1 0)))], [], [.cells 58 [.val (.bool x__minus), .val (.string x__whole), .val (.string x__digits), .val (.int .i64 x__point), .val (.bool x__plain), .val (.bool x__down), .val (.string x__exp)], .cells 58 [.val (.bool y__minus), .val (.string y__whole), .val (.string y__digits), .val (.int .i64 y__point), .val (.bool y__plain), .val (.bool y__down), .val (.string y__exp)]]⟩ kn kx kr = (decimal_Compare_p1 x__minus x__whole x__digits x__point x__plain x__down x__exp y__minus y__whole y__digits y__point y__plain y__down y__exp).bind fun r => kr ⟨[(4, [], .c (.o (.val (.int .i64 r.1)))), (5, [], .c (.o (.val (.int .i64 r.2))))], [], []⟩ := by
  simp only [decimal_Compare_p1, -eq_self, bind_cond, bind_gd, Option.bind_assoc, Option.bind_some, Sum.elim_inl, Sum.elim_inr, bind_elim]
  kernel_rfl
theorem decimal_Compare_sub1 : SubOK decimal_Compare_L decimal_Compare_G 0 10 59 1 decimal_Compare_b1 := sub_ok' decimal_Compare_d1 (fun x R kn kx kr => (decimal_Compare_p1 x.2.1.1 x.2.1.2.1 x.2.1.2.2.1 x.2.1.2.2.2.1 x.2.1.2.2.2.2.1 x.2.1.2.2.2.2.2.1 x.2.1.2.2.2.2.2.2.1 x.2.2.1.1 x.2.2.1.2.1 x.2.2.1.2.2.1 x.2.2.1.2.2.2.1 x.2.2.1.2.2.2.2.1 x.2.2.1.2.2.2.2.2.1 x.2.2.1.2.2.2.2.2.2.1).bind fun r => kr ⟨[(4, [], .c (.o (.val (.int .i64 r.1)))), (5, [], .c (.o (.val (.int .i64 r.2))))], [], []⟩) (by kernel_rfl) fun x R kn kx kr => decimal_Compare_p1_eq x.2.1.1 x.2.1.2.1 x.2.1.2.2.1 x.2.1.2.2.2.1 x.2.1.2.2.2.2.1 x.2.1.2.2.2.2.2.1 x.2.1.2.2.2.2.2.2.1 x.2.2.1.1 x.2.2.1.2.1 x.2.2.1.2.2.1 x.2.2.1.2.2.2.1 x.2.2.1.2.2.2.2.1 x.2.2.1.2.2.2.2.2.1 x.2.2.1.2.2.2.2.2.2.1 R kn kx kr
theorem decimal_Compare_p0_eq (x__minus : Bool) (x__whole : ByteArray) (x__digits : ByteArray) (x__point : Int) (x__plain : Bool) (x__down : Bool) (x__exp : ByteArray) (y__minus : Bool) (y__whole : ByteArray) (y__digits : ByteArray) (y__point : Int) (y__plain : Bool) (y__down : Bool) (y__exp : ByteArray) (R : Type) (kn : QS → Option R) (kx : Nat → QS → Option R) (kr : QS → Option R) :
    interpQ decimal_Compare_L decimal_Compare_G 0 10 59 decimal_Compare_b0 ⟨[(6, [], .c (.o (.hd 0 0))), (8, [], .c (.o (.hd 1 0)))], [], [.cells 58 [.val (.bool x__minus), .val (.string x__whole), .val (.string x__digits), .val (.int .i64 x__point), .val (.bool x__plain), .val (.bool x__down), .val (.string x__exp)], .cells 58 [.val (.bool y__minus), .val (.string y__whole), .val (.string y__digits), .val (.int .i64 y__point), .val (.bool y__plain), .val (.bool y__down), .val (.string y__exp)]]⟩ kn kx kr = (decimal_Compare_p0 x__minus x__whole x__digits x__point x__plain x__down x__exp y__minus y__whole y__digits y__point y__plain y__down y__exp).bind fun r => kr ⟨[(4, [], .c (.o (.val (.int .i64 r.1)))), (5, [], .c (.o (.val (.int .i64 r.2))))], [], []⟩ := by
  simp only [decimal_Compare_p0, -eq_self, bind_cond, bind_gd, Option.bind_assoc, Option.bind_some, Sum.elim_inl, Sum.elim_inr, bind_elim]
  kernel_rfl
theorem decimal_Compare_sub0 : SubOK decimal_Compare_L decimal_Compare_G 0 10 59 0 decimal_Compare_b0 := sub_ok' decimal_Compare_d0 (fun x R kn kx kr => (decimal_Compare_p0 x.2.1.1 x.2.1.2.1 x.2.1.2.2.1 x.2.1.2.2.2.1 x.2.1.2.2.2.2.1 x.2.1.2.2.2.2.2.1 x.2.1.2.2.2.2.2.2.1 x.2.2.1.1 x.2.2.1.2.1 x.2.2.1.2.2.1 x.2.2.1.2.2.2.1 x.2.2.1.2.2.2.2.1 x.2.2.1.2.2.2.2.2.1 x.2.2.1.2.2.2.2.2.2.1).bind fun r => kr ⟨[(4, [], .c (.o (.val (.int .i64 r.1)))), (5, [], .c (.o (.val (.int .i64 r.2))))], [], []⟩) (by kernel_rfl) fun x R kn kx kr => decimal_Compare_p0_eq x.2.1.1 x.2.1.2.1 x.2.1.2.2.1 x.2.1.2.2.2.1 x.2.1.2.2.2.2.1 x.2.1.2.2.2.2.2.1 x.2.1.2.2.2.2.2.2.1 x.2.2.1.1 x.2.2.1.2.1 x.2.2.1.2.2.1 x.2.2.1.2.2.2.1 x.2.2.1.2.2.2.2.1 x.2.2.1.2.2.2.2.2.1 x.2.2.1.2.2.2.2.2.2.1 R kn kx kr
theorem decimal_Compare_subs : subsOK decimal_Compare_L decimal_Compare_G 0 10 59 decimal_Compare_q := subs_of (show AllSub decimal_Compare_L decimal_Compare_G 0 10 59 [(0, decimal_Compare_b0), (1, decimal_Compare_b1)] from ⟨decimal_Compare_sub0, decimal_Compare_sub1, trivial⟩)
theorem decimal_Compare_eq (a : ByteArray) (b : ByteArray) (R : Type) (k : SV → List SB → Option R) :
    fnQ decimal_Compare_L decimal_Compare_G 10 59 decimal_Compare_q [.tmp 4, .tmp 5] [.c (.o (.val (.string a))), .c (.o (.val (.string b)))] [] k = (decimal_Compare_s a b).bind fun r => k (.tup [.o (.val (.int .i64 r.1)), .o (.val (.int .i64 r.2))]) [] := by
  simp only [decimal_Compare_s, -eq_self, bind_cond, bind_gd, Option.bind_assoc, Option.bind_some, Sum.elim_inl, Sum.elim_inr, bind_elim]
  kernel_rfl
def decimal_Compare_da := (dCons (dVC (dCO dS)) (dCons (dVC (dCO dS)) dNil))
def decimal_Compare_db := (dNil : Dec Unit (List SB))
noncomputable def decimal_Compare_c : CS := fun args hp R k => (Dec.d decimal_Compare_da args).bind fun x => (Dec.d decimal_Compare_db hp).bind fun y => (decimal_Compare_s x.1 x.2.1).bind fun r => k (.tup [.o (.val (.int .i64 r.1)), .o (.val (.int .i64 r.2))]) []
theorem decimal_Compare_val : ValidS Tryd.prog 19 decimal_Compare_c :=
  val_ok decimal_Compare_chk 10 decimal_Compare_Gok decimal_Compare_da decimal_Compare_db 0 (fun x y R k => (decimal_Compare_s x.1 x.2.1).bind fun r => k (.tup [.o (.val (.int .i64 r.1)), .o (.val (.int .i64 r.2))]) []) (by kernel_rfl)
    (fun x y R k => by simp only [Option.bind_assoc, Option.bind_some]) (fun x => Nat.le_of_ble_eq_true rfl) (fun y => rfl) decimal_Compare_subs fun x y => decimal_Compare_eq x.1 x.2.1 _ _
noncomputable def decimal_Compare_w : CQ := liftV [] decimal_Compare_c
theorem decimal_Compare_ok : ValidQ Tryd.prog 19 decimal_Compare_w := liftV_valid decimal_Compare_val

/-! ### signet/signetref2.digit -/
noncomputable def signetref2_digit_s (s : ByteArray) (at_ : Int) : Option Bool :=
  gd ((decide (at_ < (s.size : Int))) = true → 0 ≤ at_ ∧ at_ < s.size) <|
  gd (((decide (at_ < (s.size : Int))) && (decide ((48 : Int) ≤ (bAt s at_)))) = true → 0 ≤ at_ ∧ at_ < s.size) <|
  some (((decide (at_ < (s.size : Int))) && (decide ((48 : Int) ≤ (bAt s at_)))) && (decide ((bAt s at_) ≤ (57 : Int))))
/-! ### signet/signetref2.many -/
noncomputable def signetref2_many_p0_step (s : ByteArray) (at_ : Int) : Option (Int ⊕ Int) :=
  (signetref2_digit_s s at_).bind fun r2 =>
  bif r2 then (
    gd (InI64 (at_ + (1 : Int))) <|
    some (.inl (at_ + (1 : Int))))
  else (
    some (.inr at_))
noncomputable def signetref2_many_p0 (s : ByteArray) (at_ : Int) : Option Int :=
  whileO (fun x : Int => signetref2_many_p0_step s x) at_
noncomputable def signetref2_many_s (s : ByteArray) (at_ : Int) : Option Int :=
  (signetref2_many_p0 s at_).bind fun o3 =>
  some o3
/-! ### signet/signetref2.Read -/
noncomputable def signetref2_Read_p3_step (s : ByteArray) (k_ : Int) (i : Int) (n_Exp : List Int) : Option ((Int × (List Int)) ⊕ ((List Int))) :=
  bif decide (i < k_) then (
    gd (0 ≤ i ∧ i < s.size) <|
    bif ((!decide ((bAt s i) = (48 : Int))) || (decide ((0 : Int) < (n_Exp.length : Int)))) then (
      gd (0 ≤ i ∧ i < s.size) <|
      gd (InI64 (((bAt s i) - (48 : Int)) % 256)) <|
      gd (n_Exp.length + ([(((bAt s i) - (48 : Int)) % 256)] : List Int).length ≤ 9223372036854775807 ∧ (n_Exp.length + ([(((bAt s i) - (48 : Int)) % 256)] : List Int).length) * 8 ≤ 140737488355328) <|
      gd (InI64 (i + (1 : Int))) <|
      some (.inl ((i + (1 : Int)), (n_Exp ++ [(((bAt s i) - (48 : Int)) % 256)]))))
    else (
      gd (InI64 (i + (1 : Int))) <|
      some (.inl ((i + (1 : Int)), n_Exp))))
  else (
    some (.inr n_Exp))
noncomputable def signetref2_Read_p3 (s : ByteArray) (k_ : Int) (i : Int) (n_Exp : List Int) : Option ((List Int)) :=
  whileO (fun x : (Int × (List Int)) => signetref2_Read_p3_step s k_ x.1 x.2) (i, n_Exp)
noncomputable def signetref2_Read_p2 (s : ByteArray) (at_ : Int) : Option ((Bool × (List Int) × (List Int)) ⊕ (Int × (List Int))) :=
  (signetref2_many_s s at_).bind fun r81 =>
  bif decide (r81 = at_) then (
    some (.inl (false, [], [])))
  else (
    (signetref2_Read_p3 s r81 at_ []).bind fun o82 =>
    some (.inr (r81, o82)))
noncomputable def signetref2_Read_p5_step (all : ByteArray) (i : Int) (n_Off : Int) (n_Digits : List Int) : Option ((Int × Int × (List Int)) ⊕ (Int × (List Int))) :=
  bif decide (i < (all.size : Int)) then (
    gd (0 ≤ i ∧ i < all.size) <|
    gd (InI64 (((bAt all i) - (48 : Int)) % 256)) <|
    bif ((!decide ((((bAt all i) - (48 : Int)) % 256) = (0 : Int))) || (decide ((0 : Int) < (n_Digits.length : Int)))) then (
      gd (n_Digits.length + ([(((bAt all i) - (48 : Int)) % 256)] : List Int).length ≤ 9223372036854775807 ∧ (n_Digits.length + ([(((bAt all i) - (48 : Int)) % 256)] : List Int).length) * 8 ≤ 140737488355328) <|
      gd (InI64 (i + (1 : Int))) <|
      some (.inl ((i + (1 : Int)), n_Off, (n_Digits ++ [(((bAt all i) - (48 : Int)) % 256)]))))
    else (
      gd (InI64 (n_Off - (1 : Int))) <|
      gd (InI64 (i + (1 : Int))) <|
      some (.inl ((i + (1 : Int)), (n_Off - (1 : Int)), n_Digits))))
  else (
    some (.inr (n_Off, n_Digits)))
noncomputable def signetref2_Read_p5 (all : ByteArray) (i : Int) (n_Off : Int) (n_Digits : List Int) : Option (Int × (List Int)) :=
  whileO (fun x : (Int × Int × (List Int)) => signetref2_Read_p5_step all x.1 x.2.1 x.2.2) (i, n_Off, n_Digits)
noncomputable def signetref2_Read_p6_step (n_Digits : List Int) : Option (((List Int)) ⊕ ((List Int))) :=
  gd ((decide ((0 : Int) < (n_Digits.length : Int))) = true → InI64 ((n_Digits.length : Int) - (1 : Int))) <|
  gd ((decide ((0 : Int) < (n_Digits.length : Int))) = true → 0 ≤ ((n_Digits.length : Int) - (1 : Int)) ∧ ((n_Digits.length : Int) - (1 : Int)) < n_Digits.length) <|
  gd ((decide ((0 : Int) < (n_Digits.length : Int))) = true → (Int.toNat ((n_Digits.length : Int) - (1 : Int))) < n_Digits.length) <|
  bif ((decide ((0 : Int) < (n_Digits.length : Int))) && (decide ((n_Digits.getD (Int.toNat ((n_Digits.length : Int) - (1 : Int))) (ET.dft .i64)) = (0 : Int)))) then (
    gd (InI64 ((n_Digits.length : Int) - (1 : Int))) <|
    gd (0 ≤ ((n_Digits.length : Int) - (1 : Int)) ∧ ((n_Digits.length : Int) - (1 : Int)) ≤ n_Digits.length) <|
    some (.inl (n_Digits.take (Int.toNat ((n_Digits.length : Int) - (1 : Int))))))
  else (
    some (.inr n_Digits))
noncomputable def signetref2_Read_p6 (n_Digits : List Int) : Option ((List Int)) :=
  whileO (fun x : ((List Int)) => signetref2_Read_p6_step x) n_Digits
noncomputable def signetref2_Read_p4 (s : ByteArray) (at_ : Int) (all : ByteArray) (n_Off : Int) : Option (Bool × Int × (List Int)) :=
  bif (!decide (at_ = (s.size : Int))) then (
    some (false, n_Off, []))
  else (
    (signetref2_Read_p5 all (0 : Int) n_Off []).bind fun o84 =>
    (signetref2_Read_p6 o84.2).bind fun o85 =>
    some (true, o84.1, o85))
noncomputable def signetref2_Read_p1 (s : ByteArray) (at_ : Int) (all : ByteArray) (n_Off : Int) (n_Down : Bool) (n_Plain : Bool) : Option (Bool × Int × Bool × Bool × (List Int) × (List Int)) :=
  gd ((decide (at_ < (s.size : Int))) = true → 0 ≤ at_ ∧ at_ < s.size) <|
  gd ((decide ((bAt s at_) = (101 : Int))) = false → (decide (at_ < (s.size : Int))) = true → 0 ≤ at_ ∧ at_ < s.size) <|
  bif ((decide (at_ < (s.size : Int))) && ((decide ((bAt s at_) = (101 : Int))) || (decide ((bAt s at_) = (69 : Int))))) then (
    gd (InI64 (at_ + (1 : Int))) <|
    gd ((decide ((at_ + (1 : Int)) < (s.size : Int))) = true → 0 ≤ (at_ + (1 : Int)) ∧ (at_ + (1 : Int)) < s.size) <|
    gd ((decide ((bAt s (at_ + (1 : Int))) = (43 : Int))) = false → (decide ((at_ + (1 : Int)) < (s.size : Int))) = true → 0 ≤ (at_ + (1 : Int)) ∧ (at_ + (1 : Int)) < s.size) <|
    bif ((decide ((at_ + (1 : Int)) < (s.size : Int))) && ((decide ((bAt s (at_ + (1 : Int))) = (43 : Int))) || (decide ((bAt s (at_ + (1 : Int))) = (45 : Int))))) then (
      gd (0 ≤ (at_ + (1 : Int)) ∧ (at_ + (1 : Int)) < s.size) <|
      gd (InI64 ((at_ + (1 : Int)) + (1 : Int))) <|
      (signetref2_Read_p2 s ((at_ + (1 : Int)) + (1 : Int))).bind fun o83 => (Sum.elim (fun (o83_0 : Bool × (List Int) × (List Int)) =>
        some (o83_0.1, n_Off, decide ((bAt s (at_ + (1 : Int))) = (45 : Int)), false, o83_0.2.1, o83_0.2.2)) (fun (o83_1 : Int × (List Int)) =>
        (signetref2_Read_p4 s o83_1.1 all n_Off).bind fun o86 =>
        some (o86.1, o86.2.1, decide ((bAt s (at_ + (1 : Int))) = (45 : Int)), false, o86.2.2, o83_1.2))) o83)
    else (
      (signetref2_Read_p2 s (at_ + (1 : Int))).bind fun o87 => (Sum.elim (fun (o87_0 : Bool × (List Int) × (List Int)) =>
        some (o87_0.1, n_Off, n_Down, false, o87_0.2.1, o87_0.2.2)) (fun (o87_1 : Int × (List Int)) =>
        (signetref2_Read_p4 s o87_1.1 all n_Off).bind fun o88 =>
        some (o88.1, o88.2.1, n_Down, false, o88.2.2, o87_1.2))) o87))
  else (
    (signetref2_Read_p4 s at_ all n_Off).bind fun o89 =>
    some (o89.1, o89.2.1, n_Down, n_Plain, o89.2.2, []))
noncomputable def signetref2_Read_p0 (s : ByteArray) (at_ : Int) (n_Off : Int) (n_Down : Bool) (n_Plain : Bool) (n_Text : ByteArray) : Option (Bool × Int × Bool × Bool × ByteArray × (List Int) × (List Int)) :=
  (signetref2_many_s s at_).bind fun r79 =>
  gd ((decide (r79 = at_)) = false → 0 ≤ at_ ∧ at_ < s.size) <|
  gd ((decide ((bAt s at_) = (48 : Int))) = true → (decide (r79 = at_)) = false → InI64 (at_ + (1 : Int))) <|
  bif ((decide (r79 = at_)) || ((decide ((bAt s at_) = (48 : Int))) && (decide ((at_ + (1 : Int)) < r79)))) then (
    some (false, n_Off, n_Down, n_Plain, n_Text, [], []))
  else (
    gd (0 ≤ at_ ∧ at_ ≤ r79 ∧ r79 ≤ s.size) <|
    gd (0 ≤ at_ ∧ at_ ≤ r79 ∧ r79 ≤ s.size) <|
    gd (InI64 (r79 - at_)) <|
    gd ((decide (r79 < (s.size : Int))) = true → 0 ≤ r79 ∧ r79 < s.size) <|
    bif ((decide (r79 < (s.size : Int))) && (decide ((bAt s r79) = (46 : Int)))) then (
      gd (InI64 (r79 + (1 : Int))) <|
      (signetref2_many_s s (r79 + (1 : Int))).bind fun r80 =>
      gd (InI64 (r79 + (1 : Int))) <|
      bif decide (r80 = (r79 + (1 : Int))) then (
        some (false, (r79 - at_), n_Down, false, (s.extract (Int.toNat at_) (Int.toNat r79)), [], []))
      else (
        gd (InI64 (r79 + (1 : Int))) <|
        gd (0 ≤ (r79 + (1 : Int)) ∧ (r79 + (1 : Int)) ≤ r80 ∧ r80 ≤ s.size) <|
        gd ((s.extract (Int.toNat at_) (Int.toNat r79)).size + (s.extract (Int.toNat (r79 + (1 : Int))) (Int.toNat r80)).size ≤ 9223372036854775807) <|
        (signetref2_Read_p1 s r80 ((s.extract (Int.toNat at_) (Int.toNat r79)) ++ (s.extract (Int.toNat (r79 + (1 : Int))) (Int.toNat r80))) (r79 - at_) n_Down false).bind fun o90 =>
        some (o90.1, o90.2.1, o90.2.2.1, o90.2.2.2.1, (s.extract (Int.toNat at_) (Int.toNat r79)), o90.2.2.2.2.1, o90.2.2.2.2.2)))
    else (
      (signetref2_Read_p1 s r79 (s.extract (Int.toNat at_) (Int.toNat r79)) (r79 - at_) n_Down n_Plain).bind fun o91 =>
      some (o91.1, o91.2.1, o91.2.2.1, o91.2.2.2.1, (s.extract (Int.toNat at_) (Int.toNat r79)), o91.2.2.2.2.1, o91.2.2.2.2.2)))
noncomputable def signetref2_Read_s (s : ByteArray) : Option (signetref2_Num × Bool) :=
  gd ((decide ((0 : Int) < (s.size : Int))) = true → 0 ≤ (0 : Int) ∧ (0 : Int) < s.size) <|
  bif ((decide ((0 : Int) < (s.size : Int))) && (decide ((bAt s (0 : Int)) = (45 : Int)))) then (
    gd (InI64 ((0 : Int) + (1 : Int))) <|
    (signetref2_Read_p0 s ((0 : Int) + (1 : Int)) (0 : Int) false true (⟨#[]⟩ : ByteArray)).bind fun o92 =>
    some ((⟨true, o92.2.2.2.2.2.1, o92.2.1, o92.2.2.1, o92.2.2.2.2.2.2, o92.2.2.2.1, o92.2.2.2.2.1⟩ : signetref2_Num), o92.1))
  else (
    (signetref2_Read_p0 s (0 : Int) (0 : Int) false true (⟨#[]⟩ : ByteArray)).bind fun o93 =>
    some ((⟨false, o93.2.2.2.2.2.1, o93.2.1, o93.2.2.1, o93.2.2.2.2.2.2, o93.2.2.2.1, o93.2.2.2.2.1⟩ : signetref2_Num), o93.1))
/-! ### signet/signetref2.at -/
/-! ### signet/signetref2.signed -/
/-! ### signet/signetref2.Apart -/
/-! ### signet/signetref2.Size -/
/-! ### signet/signetref2.Compare -/
/-! ### signet/signetlaw2.DecimalCompares -/
end Go.Proofs.YtdibapfehdhfjaaDoor
