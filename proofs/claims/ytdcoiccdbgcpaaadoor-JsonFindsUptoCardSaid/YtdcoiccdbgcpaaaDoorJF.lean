/-
  Functions as the engine reads them (printed by gen.py).
-/
import Derived.Test.YtdcoiccdbgcpaaaDoorEngO
import Derived.Test.YtdcoiccdbgcpaaaDoorProg
import Derived.Test.YtdcoiccdbgcpaaaDoorItoa
import Derived.Test.YtdcoiccdbgcpaaaDoorGC
import Derived.Test.YtdcoiccdbgcpaaaDoorJR
namespace Go.Proofs.YtdcoiccdbgcpaaaDoor
open Go.Eng
set_option linter.unusedVariables false
set_option linter.unusedSimpArgs false
set_option maxRecDepth 100000
/-! ### signet/signetlaw3.lent -/
def signetlaw3_lent_q : IQ :=
  (.seq
  (.reg 2 none [
    ⟨(some 2), .mv (.v (.slice none 0 0)), none⟩])
  (.seq
  (.reg 3 none [
    ⟨(some 4), .mv (.t 0), none⟩,
    ⟨(some 5), .call 32 [(.t 4)], none⟩,
    ⟨(some 3), .mv (.t 5), none⟩])
  (.seq
  (.reg 3 none [
    ⟨(some 6), .mv (.t 3), none⟩,
    ⟨(some 7), .build [.int .i64 0, .string ⟨#[]⟩, .string ⟨#[]⟩, .bool false, .int .i64 0, .int .i64 0] [(0, 1, (.v (.int .i64 91)))], none⟩,
    ⟨(some 8), .build [.int .i64 0, .string ⟨#[]⟩, .string ⟨#[]⟩, .bool false, .int .i64 0, .int .i64 0] [(0, 1, (.v (.int .i64 92)))], none⟩,
    ⟨(some 9), .bslice 36 6 2 [.int .i64 0, .string ⟨#[]⟩, .string ⟨#[]⟩, .bool false, .int .i64 0, .int .i64 0] [(0, (.t 7)), (1, (.t 8))], none⟩,
    ⟨(some 10), .append 36 6 64 [.int .i64 0, .string ⟨#[]⟩, .string ⟨#[]⟩, .bool false, .int .i64 0, .int .i64 0] (.t 6) (.t 9), none⟩,
    ⟨(some 3), .mv (.t 10), none⟩])
  (.seq
  (.reg 2 none [
    ⟨(some 11), .mv (.t 3), none⟩,
    ⟨(some 12), .mv (.t 0), none⟩,
    ⟨(some 13), .len (.t 12), none⟩,
    ⟨(some 14), .sub (some 6) (.t 11) (some (.v (.int .i64 0))) (some (.t 13)), none⟩,
    ⟨(some 2), .mv (.t 14), none⟩])
  (.canon [(2, none, .node, 36)] [2] .ret)))))
theorem signetlaw3_lent_chk : chk Tryd.prog 23 [14] = some (signetlaw3_lent_q.erase, [.tmp 2], 15) := by kernel_rfl
noncomputable def signetlaw3_lent_s (v : (List Eng.Node)) : Option ((List Eng.Node) × Nat) :=
  (signetref3_Twin_s v).bind fun r1 =>
  gd (r1.length + ([(⟨(91 : Int), (⟨#[]⟩ : ByteArray), (⟨#[]⟩ : ByteArray), false, (0 : Int), (0 : Int)⟩ : Eng.Node), (⟨(92 : Int), (⟨#[]⟩ : ByteArray), (⟨#[]⟩ : ByteArray), false, (0 : Int), (0 : Int)⟩ : Eng.Node)] : List Eng.Node).length ≤ 9223372036854775807 ∧ (r1.length + ([(⟨(91 : Int), (⟨#[]⟩ : ByteArray), (⟨#[]⟩ : ByteArray), false, (0 : Int), (0 : Int)⟩ : Eng.Node), (⟨(92 : Int), (⟨#[]⟩ : ByteArray), (⟨#[]⟩ : ByteArray), false, (0 : Int), (0 : Int)⟩ : Eng.Node)] : List Eng.Node).length) * 64 ≤ 140737488355328) <|
  gd (0 ≤ (0 : Int) ∧ (0 : Int) ≤ (v.length : Int) ∧ (v.length : Int) ≤ (r1 ++ [(⟨(91 : Int), (⟨#[]⟩ : ByteArray), (⟨#[]⟩ : ByteArray), false, (0 : Int), (0 : Int)⟩ : Eng.Node), (⟨(92 : Int), (⟨#[]⟩ : ByteArray), (⟨#[]⟩ : ByteArray), false, (0 : Int), (0 : Int)⟩ : Eng.Node)]).length) <|
  some ((r1 ++ [(⟨(91 : Int), (⟨#[]⟩ : ByteArray), (⟨#[]⟩ : ByteArray), false, (0 : Int), (0 : Int)⟩ : Eng.Node), (⟨(92 : Int), (⟨#[]⟩ : ByteArray), (⟨#[]⟩ : ByteArray), false, (0 : Int), (0 : Int)⟩ : Eng.Node)]), (Int.toNat (v.length : Int)))
noncomputable def signetlaw3_lent_G : Nat → Option CQ := tblQ [(32, signetref3_Twin_w)]
theorem signetlaw3_lent_Gok : ∀ f C, signetlaw3_lent_G f = some C → ValidQ Tryd.prog f C := tblQ_valid ⟨signetref3_Twin_ok, trivial⟩
noncomputable def signetlaw3_lent_L : Nat → SubQ := tblL []
theorem signetlaw3_lent_subs : subsOK signetlaw3_lent_L signetlaw3_lent_G 1 4 15 signetlaw3_lent_q := subs_of (show AllSub signetlaw3_lent_L signetlaw3_lent_G 1 4 15 [] from trivial)
theorem signetlaw3_lent_eq (v : (List Eng.Node)) (R : Type) (k : SV → List SB → Option R) :
    fnQ signetlaw3_lent_L signetlaw3_lent_G 4 15 signetlaw3_lent_q [.tmp 2] [.c (.o (.own 0))] [.view .node v] k = (signetlaw3_lent_s v).bind fun r => k (.c (.o (.own 1))) [.view .node v, .part 2 (0) r.2 6, .row .node 36 r.1] := by
  simp only [signetlaw3_lent_s, -eq_self, bind_cond, bind_gd, Option.bind_assoc, Option.bind_some, Sum.elim_inl, Sum.elim_inr, bind_elim]
  kernel_rfl
def signetlaw3_lent_da := (dCons (dVC (dCO (dO 0))) dNil)
def signetlaw3_lent_db := (dCons (dView .node) dNil)
noncomputable def signetlaw3_lent_c : CS := fun args hp R k => (Dec.d signetlaw3_lent_da args).bind fun x => (Dec.d signetlaw3_lent_db hp).bind fun y => (signetlaw3_lent_s y.1).bind fun r => k (.c (.o (.own 1))) [.view .node y.1, .part 2 (0) r.2 6, .row .node 36 r.1]
theorem signetlaw3_lent_val : ValidS Tryd.prog 23 signetlaw3_lent_c :=
  val_ok signetlaw3_lent_chk 4 signetlaw3_lent_Gok signetlaw3_lent_da signetlaw3_lent_db 1 (fun x y R k => (signetlaw3_lent_s y.1).bind fun r => k (.c (.o (.own 1))) [.view .node y.1, .part 2 (0) r.2 6, .row .node 36 r.1]) (by kernel_rfl)
    (fun x y R k => by simp only [Option.bind_assoc, Option.bind_some]) (fun x => Nat.le_of_ble_eq_true rfl) (fun y => rfl) signetlaw3_lent_subs fun x y => signetlaw3_lent_eq y.1 _ _
noncomputable def signetlaw3_lent_w : CQ := prepQ [(0, none, some (.node, 36))] (liftQ [false] signetlaw3_lent_c)
theorem signetlaw3_lent_ok : ValidQ Tryd.prog 23 signetlaw3_lent_w := prep_loud signetlaw3_lent_val

/-! ### signet/signetlaw3.still -/
def signetlaw3_still_q : IQ :=
  (.seq
  (.reg 4 none [
    ⟨(some 4), .mv (.v (.bool false)), none⟩])
  (.seq
  (.reg 5 none [
    ⟨(some 7), .mv (.t 0), none⟩,
    ⟨(some 8), .mv (.t 1), none⟩,
    ⟨(some 9), .call 44 [(.t 7), (.t 8)], none⟩,
    ⟨(some 5), .mv (.t 9), none⟩])
  (.seq
  (.reg 6 none [
    ⟨(some 10), .mv (.t 0), none⟩,
    ⟨(some 11), .mv (.t 1), none⟩,
    ⟨(some 12), .len (.t 11), none⟩,
    ⟨(some 13), .bin false .add (.t 12) (.v (.int .i64 2)), none⟩,
    ⟨(some 14), .sub (some 6) (.t 10) none (some (.t 13)), none⟩,
    ⟨(some 6), .mv (.t 14), none⟩])
  (.seq
  (.reg 4 none [
    ⟨(some 15), .mv (.t 5), none⟩,
    ⟨(some 16), .mv (.t 15), none⟩,
    ⟨(some 17), .mv (.t 6), some (16, true)⟩,
    ⟨(some 18), .mv (.t 1), some (16, true)⟩,
    ⟨(some 19), .len (.t 18), some (16, true)⟩,
    ⟨(some 20), .iaddr 6 (.t 17) (.t 19), some (16, true)⟩,
    ⟨(some 21), .faddr 0 (.t 20), some (16, true)⟩,
    ⟨(some 22), .load none (.t 21), some (16, true)⟩,
    ⟨(some 23), .bin false .eql (.t 22) (.v (.int .i64 91)), some (16, true)⟩,
    ⟨(some 24), .pick (.t 16) (.t 23) (.v (.bool false)), none⟩,
    ⟨(some 25), .mv (.t 24), none⟩,
    ⟨(some 26), .mv (.t 6), some (25, true)⟩,
    ⟨(some 27), .mv (.t 1), some (25, true)⟩,
    ⟨(some 28), .len (.t 27), some (25, true)⟩,
    ⟨(some 29), .bin false .add (.t 28) (.v (.int .i64 1)), some (25, true)⟩,
    ⟨(some 30), .iaddr 6 (.t 26) (.t 29), some (25, true)⟩,
    ⟨(some 31), .faddr 0 (.t 30), some (25, true)⟩,
    ⟨(some 32), .load none (.t 31), some (25, true)⟩,
    ⟨(some 33), .bin false .eql (.t 32) (.v (.int .i64 92)), some (25, true)⟩,
    ⟨(some 34), .pick (.t 25) (.t 33) (.v (.bool false)), none⟩,
    ⟨(some 4), .mv (.t 34), none⟩])
  (.canon [] [4] .ret)))))
theorem signetlaw3_still_chk : chk Tryd.prog 27 [] = some (signetlaw3_still_q.erase, [.tmp 4], 35) := by kernel_rfl
noncomputable def signetlaw3_still_s (k_ : (List Eng.Node)) (v : (List Eng.Node)) (k__lo : Nat) (k__n : Nat) : Option Bool :=
  gd (k__lo + k__n ≤ k_.length) <|
  (signetref3_Same_s ((k_.drop k__lo).take k__n) v).bind fun r1 =>
  gd (InI64 ((v.length : Int) + (2 : Int))) <|
  gd (0 ≤ (0 : Int) ∧ (0 : Int) ≤ ((v.length : Int) + (2 : Int)) ∧ ((k__lo : Nat) : Int) + ((v.length : Int) + (2 : Int)) ≤ (k_.length : Int)) <|
  gd (r1 = true → 0 ≤ (v.length : Int) ∧ (v.length : Int) < (((Int.toNat ((v.length : Int) + (2 : Int))) : Nat) : Int)) <|
  gd (r1 = true → (k__lo + Int.toNat (v.length : Int)) < k_.length) <|
  gd (r1 = true → (k__lo + Int.toNat (v.length : Int)) < k_.length) <|
  gd ((r1 && (decide (((k_.getD (k__lo + Int.toNat (v.length : Int)) (ET.dft .node)).kind) = (91 : Int)))) = true → InI64 ((v.length : Int) + (1 : Int))) <|
  gd ((r1 && (decide (((k_.getD (k__lo + Int.toNat (v.length : Int)) (ET.dft .node)).kind) = (91 : Int)))) = true → 0 ≤ ((v.length : Int) + (1 : Int)) ∧ ((v.length : Int) + (1 : Int)) < (((Int.toNat ((v.length : Int) + (2 : Int))) : Nat) : Int)) <|
  gd ((r1 && (decide (((k_.getD (k__lo + Int.toNat (v.length : Int)) (ET.dft .node)).kind) = (91 : Int)))) = true → (k__lo + Int.toNat ((v.length : Int) + (1 : Int))) < k_.length) <|
  gd ((r1 && (decide (((k_.getD (k__lo + Int.toNat (v.length : Int)) (ET.dft .node)).kind) = (91 : Int)))) = true → (k__lo + Int.toNat ((v.length : Int) + (1 : Int))) < k_.length) <|
  some ((r1 && (decide (((k_.getD (k__lo + Int.toNat (v.length : Int)) (ET.dft .node)).kind) = (91 : Int)))) && (decide (((k_.getD (k__lo + Int.toNat ((v.length : Int) + (1 : Int))) (ET.dft .node)).kind) = (92 : Int))))
noncomputable def signetlaw3_still_G : Nat → Option CQ := tblQ [(44, signetref3_Same_w)]
theorem signetlaw3_still_Gok : ∀ f C, signetlaw3_still_G f = some C → ValidQ Tryd.prog f C := tblQ_valid ⟨signetref3_Same_ok, trivial⟩
noncomputable def signetlaw3_still_L : Nat → SubQ := tblL []
theorem signetlaw3_still_subs : subsOK signetlaw3_still_L signetlaw3_still_G 3 7 35 signetlaw3_still_q := subs_of (show AllSub signetlaw3_still_L signetlaw3_still_G 3 7 35 [] from trivial)
theorem signetlaw3_still_eq (k_ : (List Eng.Node)) (v : (List Eng.Node)) (k__lo : Nat) (k__n : Nat) (R : Type) (k : SV → List SB → Option R) :
    fnQ signetlaw3_still_L signetlaw3_still_G 7 35 signetlaw3_still_q [.tmp 4] [.c (.o (.own 0)), .c (.o (.own 1))] [.part 2 k__lo k__n 6, .view .node v, .view .node k_] k = (signetlaw3_still_s k_ v k__lo k__n).bind fun r => k (.c (.o (.val (.bool r)))) [.part 2 k__lo k__n 6, .view .node v, .view .node k_] := by
  simp only [signetlaw3_still_s, -eq_self, bind_cond, bind_gd, Option.bind_assoc, Option.bind_some, Sum.elim_inl, Sum.elim_inr, bind_elim]
  kernel_rfl
def signetlaw3_still_da := (dCons (dVC (dCO (dO 0))) (dCons (dVC (dCO (dO 1))) dNil))
def signetlaw3_still_db := (dCons (dPart 2 6) (dCons (dView .node) (dCons (dView .node) dNil)))
noncomputable def signetlaw3_still_c : CS := fun args hp R k => (Dec.d signetlaw3_still_da args).bind fun x => (Dec.d signetlaw3_still_db hp).bind fun y => (signetlaw3_still_s y.2.2.1 y.2.1 y.1.1 y.1.2).bind fun r => k (.c (.o (.val (.bool r)))) [.part 2 y.1.1 y.1.2 6, .view .node y.2.1, .view .node y.2.2.1]
theorem signetlaw3_still_val : ValidS Tryd.prog 27 signetlaw3_still_c :=
  val_ok signetlaw3_still_chk 7 signetlaw3_still_Gok signetlaw3_still_da signetlaw3_still_db 3 (fun x y R k => (signetlaw3_still_s y.2.2.1 y.2.1 y.1.1 y.1.2).bind fun r => k (.c (.o (.val (.bool r)))) [.part 2 y.1.1 y.1.2 6, .view .node y.2.1, .view .node y.2.2.1]) (by kernel_rfl)
    (fun x y R k => by simp only [Option.bind_assoc, Option.bind_some]) (fun x => Nat.le_of_ble_eq_true rfl) (fun y => rfl) signetlaw3_still_subs fun x y => signetlaw3_still_eq y.2.2.1 y.2.1 y.1.1 y.1.2 _ _
noncomputable def signetlaw3_still_w : CQ := prepQ [(0, none, some (.node, 36)), (1, none, some (.node, 36))] (liftE [false, false, false] signetlaw3_still_c)
theorem signetlaw3_still_ok : ValidQ Tryd.prog 27 signetlaw3_still_w := prep_quietE signetlaw3_still_val

/-! ### signet/signetlaw3.sameInts -/
def signetlaw3_sameInts_b0 : IQ :=
  (.loop [0, 1, 5]
    (.seq
    (.seq
    (.reg 14 none [
      ⟨(some 11), .mv (.t 5), none⟩,
      ⟨(some 12), .mv (.t 0), none⟩,
      ⟨(some 13), .len (.t 12), none⟩,
      ⟨(some 14), .bin false .lss (.t 11) (.t 13), none⟩])
    (.cond (.t 14)
      .skip
      (.canon [] [] (.exit 0))))
    (.seq
    (.block 1
      (.seq
      (.reg 25 (some [0, 1, 2, 3, 4, 5, 6, 7, 8]) [
        ⟨(some 17), .mv (.t 0), none⟩,
        ⟨(some 18), .mv (.t 5), none⟩,
        ⟨(some 19), .iaddr 1 (.t 17) (.t 18), none⟩,
        ⟨(some 20), .load none (.t 19), none⟩,
        ⟨(some 21), .mv (.t 1), none⟩,
        ⟨(some 22), .mv (.t 5), none⟩,
        ⟨(some 23), .iaddr 1 (.t 21) (.t 22), none⟩,
        ⟨(some 24), .load none (.t 23), none⟩,
        ⟨(some 25), .bin false .neq (.t 20) (.t 24), none⟩])
      (.cond (.t 25)
        (.seq
        (.reg 4 none [
          ⟨(some 4), .mv (.v (.bool false)), none⟩])
        (.canon [] [4] .ret))
        .skip)))
    (.reg 5 none [
      ⟨(some 15), .mv (.t 5), none⟩,
      ⟨(some 16), .bin false .add (.t 15) (.v (.int .i64 1)), none⟩,
      ⟨(some 5), .mv (.t 16), none⟩]))))
def signetlaw3_sameInts_q : IQ :=
  (.seq
  (.reg 4 none [
    ⟨(some 4), .mv (.v (.bool false)), none⟩])
  (.seq
  (.seq
  (.reg 10 none [
    ⟨(some 6), .mv (.t 0), none⟩,
    ⟨(some 7), .len (.t 6), none⟩,
    ⟨(some 8), .mv (.t 1), none⟩,
    ⟨(some 9), .len (.t 8), none⟩,
    ⟨(some 10), .bin false .neq (.t 7) (.t 9), none⟩])
  (.cond (.t 10)
    (.seq
    (.reg 4 none [
      ⟨(some 4), .mv (.v (.bool false)), none⟩])
    (.canon [] [4] .ret))
    .skip))
  (.seq
  (.seq
  (.reg 5 none [
    ⟨(some 5), .mv (.v (.int .i64 0)), none⟩])
  (.block 0
    (.canon [] [0, 1, 5] (.sub 0 signetlaw3_sameInts_b0))))
  (.seq
  (.reg 4 none [
    ⟨(some 4), .mv (.v (.bool true)), none⟩])
  (.canon [] [4] .ret)))))
theorem signetlaw3_sameInts_chk : chk Tryd.prog 30 [] = some (signetlaw3_sameInts_q.erase, [.tmp 4], 26) := by kernel_rfl
noncomputable def signetlaw3_sameInts_p0_step (i : Int) (a : List Int) (b : List Int) : Option (Int ⊕ (Bool ⊕ Unit)) :=
  bif decide (i < (a.length : Int)) then (
    gd (0 ≤ i ∧ i < a.length) <|
    gd ((Int.toNat i) < a.length) <|
    gd (0 ≤ i ∧ i < b.length) <|
    gd ((Int.toNat i) < b.length) <|
    bif (!decide ((a.getD (Int.toNat i) (ET.dft .i64)) = (b.getD (Int.toNat i) (ET.dft .i64)))) then (
      some (.inr (.inl false)))
    else (
      gd (InI64 (i + (1 : Int))) <|
      some (.inl (i + (1 : Int)))))
  else (
    some (.inr (.inr ())))
noncomputable def signetlaw3_sameInts_p0 (i : Int) (a : List Int) (b : List Int) : Option (Bool ⊕ Unit) :=
  whileO (fun x : Int => signetlaw3_sameInts_p0_step x a b) i
noncomputable def signetlaw3_sameInts_s (a : (List Int)) (b : (List Int)) : Option Bool :=
  bif (!decide ((a.length : Int) = (b.length : Int))) then (
    some false)
  else (
    (signetlaw3_sameInts_p0 (0 : Int) a b).bind fun o1 => (Sum.elim (fun (o1_0 : Bool) =>
      some o1_0) (fun (o1_1 : Unit) =>
      some true)) o1)
noncomputable def signetlaw3_sameInts_G : Nat → Option CQ := tblQ []
theorem signetlaw3_sameInts_Gok : ∀ f C, signetlaw3_sameInts_G f = some C → ValidQ Tryd.prog f C := fun f C h => by cases h
def signetlaw3_sameInts_d0 := (dQS (dCons (dSl 0 (dVC (dCO (dO 0)))) (dCons (dSl 1 (dVC (dCO (dO 1)))) (dCons (dSl 5 (dVC (dCO (dI .i64)))) dNil))) (dCons (dView .i64) (dCons (dView .i64) dNil)))
noncomputable def signetlaw3_sameInts_l0 : SubQ := fun S R kn kx kr => (Dec.d signetlaw3_sameInts_d0 S).bind fun x => (signetlaw3_sameInts_p0 x.1.2.2.1 x.2.1 x.2.2.1).bind fun r => (Sum.elim (fun (r_0 : Bool) => kr ⟨[(4, [], .c (.o (.val (.bool r_0))))], [], [.view .i64 x.2.1, .view .i64 x.2.2.1]⟩) (fun (r_1 : Unit) => kx 0 ⟨[], [], [.view .i64 x.2.1, .view .i64 x.2.2.1]⟩)) r
noncomputable def signetlaw3_sameInts_L : Nat → SubQ := tblL [(0, signetlaw3_sameInts_l0)]
theorem signetlaw3_sameInts_p0_eq (i : Int) (a : List Int) (b : List Int) (R : Type) (kn : QS → Option R) (kx : Nat → QS → Option R) (kr : QS → Option R) :
    interpQ signetlaw3_sameInts_L signetlaw3_sameInts_G 2 6 26 signetlaw3_sameInts_b0 ⟨[(0, [], .c (.o (.own 0))), (1, [], .c (.o (.own 1))), (5, [], .c (.o (.val (.int .i64 i))))], [], [.view .i64 a, .view .i64 b]⟩ kn kx kr = (signetlaw3_sameInts_p0 i a b).bind fun r => (Sum.elim (fun (r_0 : Bool) => kr ⟨[(4, [], .c (.o (.val (.bool r_0))))], [], [.view .i64 a, .view .i64 b]⟩) (fun (r_1 : Unit) => kx 0 ⟨[], [], [.view .i64 a, .view .i64 b]⟩)) r := by
  refine loop_piece (step := fun x => signetlaw3_sameInts_p0_step x a b) (enc := fun x => ⟨[(0, [], .c (.o (.own 0))), (1, [], .c (.o (.own 1))), (5, [], .c (.o (.val (.int .i64 x))))], [], [.view .i64 a, .view .i64 b]⟩) (ko := fun r => (Sum.elim (fun (r_0 : Bool) => kr ⟨[(4, [], .c (.o (.val (.bool r_0))))], [], [.view .i64 a, .view .i64 b]⟩) (fun (r_1 : Unit) => kx 0 ⟨[], [], [.view .i64 a, .view .i64 b]⟩)) r) ?_ ?_ i
  · intro x; kernel_rfl
  · intro x ki; simp only [signetlaw3_sameInts_p0_step, -eq_self, bind_cond, bind_gd, Option.bind_assoc, Option.bind_some, Sum.elim_inl, Sum.elim_inr, bind_elim]; kernel_rfl
theorem signetlaw3_sameInts_sub0 : SubOK signetlaw3_sameInts_L signetlaw3_sameInts_G 2 6 26 0 signetlaw3_sameInts_b0 := sub_ok' signetlaw3_sameInts_d0 (fun x R kn kx kr => (signetlaw3_sameInts_p0 x.1.2.2.1 x.2.1 x.2.2.1).bind fun r => (Sum.elim (fun (r_0 : Bool) => kr ⟨[(4, [], .c (.o (.val (.bool r_0))))], [], [.view .i64 x.2.1, .view .i64 x.2.2.1]⟩) (fun (r_1 : Unit) => kx 0 ⟨[], [], [.view .i64 x.2.1, .view .i64 x.2.2.1]⟩)) r) (by kernel_rfl) fun x R kn kx kr => signetlaw3_sameInts_p0_eq x.1.2.2.1 x.2.1 x.2.2.1 R kn kx kr
theorem signetlaw3_sameInts_subs : subsOK signetlaw3_sameInts_L signetlaw3_sameInts_G 2 6 26 signetlaw3_sameInts_q := subs_of (show AllSub signetlaw3_sameInts_L signetlaw3_sameInts_G 2 6 26 [(0, signetlaw3_sameInts_b0)] from ⟨signetlaw3_sameInts_sub0, trivial⟩)
theorem signetlaw3_sameInts_eq (a : (List Int)) (b : (List Int)) (R : Type) (k : SV → List SB → Option R) :
    fnQ signetlaw3_sameInts_L signetlaw3_sameInts_G 6 26 signetlaw3_sameInts_q [.tmp 4] [.c (.o (.own 0)), .c (.o (.own 1))] [.view .i64 a, .view .i64 b] k = (signetlaw3_sameInts_s a b).bind fun r => k (.c (.o (.val (.bool r)))) [.view .i64 a, .view .i64 b] := by
  simp only [signetlaw3_sameInts_s, -eq_self, bind_cond, bind_gd, Option.bind_assoc, Option.bind_some, Sum.elim_inl, Sum.elim_inr, bind_elim]
  kernel_rfl
def signetlaw3_sameInts_da := (dCons (dVC (dCO (dO 0))) (dCons (dVC (dCO (dO 1))) dNil))
def signetlaw3_sameInts_db := (dCons (dView .i64) (dCons (dView .i64) dNil))
noncomputable def signetlaw3_sameInts_c : CS := fun args hp R k => (Dec.d signetlaw3_sameInts_da args).bind fun x => (Dec.d signetlaw3_sameInts_db hp).bind fun y => (signetlaw3_sameInts_s y.1 y.2.1).bind fun r => k (.c (.o (.val (.bool r)))) [.view .i64 y.1, .view .i64 y.2.1]
theorem signetlaw3_sameInts_val : ValidS Tryd.prog 30 signetlaw3_sameInts_c :=
  val_ok signetlaw3_sameInts_chk 6 signetlaw3_sameInts_Gok signetlaw3_sameInts_da signetlaw3_sameInts_db 2 (fun x y R k => (signetlaw3_sameInts_s y.1 y.2.1).bind fun r => k (.c (.o (.val (.bool r)))) [.view .i64 y.1, .view .i64 y.2.1]) (by kernel_rfl)
    (fun x y R k => by simp only [Option.bind_assoc, Option.bind_some]) (fun x => Nat.le_of_ble_eq_true rfl) (fun y => rfl) signetlaw3_sameInts_subs fun x y => signetlaw3_sameInts_eq y.1 y.2.1 _ _
noncomputable def signetlaw3_sameInts_w : CQ := prepQ [(0, none, some (.i64, 3)), (1, none, some (.i64, 3))] (liftV [false, false] signetlaw3_sameInts_c)
theorem signetlaw3_sameInts_ok : ValidQ Tryd.prog 30 signetlaw3_sameInts_w := prep_quiet signetlaw3_sameInts_val

/-! ### signet/signetlaw3.flat -/
def signetlaw3_flat_b0 : IQ :=
  (.loop [0, 1, 4]
    (.seq
    (.seq
    (.reg 8 none [
      ⟨(some 5), .mv (.t 4), none⟩,
      ⟨(some 6), .mv (.t 0), none⟩,
      ⟨(some 7), .len (.t 6), none⟩,
      ⟨(some 8), .bin false .lss (.t 5) (.t 7), none⟩])
    (.cond (.t 8)
      .skip
      (.canon [] [0, 1] (.exit 0))))
    (.seq
    (.block 1
      (.reg 0 none [
        ⟨(some 11), .mv (.t 0), none⟩,
        ⟨(some 12), .mv (.t 4), none⟩,
        ⟨(some 13), .mv (.t 1), none⟩,
        ⟨(some 14), .bin false .add (.t 13) (.v (.string ⟨#[113]⟩)), none⟩,
        ⟨(some 15), .mv (.t 4), none⟩,
        ⟨(some 16), .call 105 [(.t 15)], none⟩,
        ⟨(some 17), .bin false .add (.t 14) (.t 16), none⟩,
        ⟨(some 18), .build [.int .i64 0, .string ⟨#[]⟩, .string ⟨#[]⟩, .bool false, .int .i64 0, .int .i64 0] [(0, 1, (.v (.int .i64 1))), (1, 1, (.t 17))], none⟩,
        ⟨(some 19), .iaddr 6 (.t 11) (.t 12), none⟩,
        ⟨none, .store 6 (.t 19) (.t 18), none⟩]))
    (.reg 4 none [
      ⟨(some 9), .mv (.t 4), none⟩,
      ⟨(some 10), .bin false .add (.t 9) (.v (.int .i64 1)), none⟩,
      ⟨(some 4), .mv (.t 10), none⟩]))))
def signetlaw3_flat_q : IQ :=
  (.join [] []
  (.seq
  (.seq
  (.reg 4 none [
    ⟨(some 4), .mv (.v (.int .i64 0)), none⟩])
  (.block 0
    (.canon [] [0, 1, 4] (.sub 0 signetlaw3_flat_b0))))
  (.seq
  (.reg 0 none [
    ⟨(some 20), .mv (.t 0), none⟩,
    ⟨(some 21), .mv (.t 0), none⟩,
    ⟨(some 22), .len (.t 21), none⟩,
    ⟨(some 23), .bin false .sub (.t 22) (.v (.int .i64 1)), none⟩,
    ⟨(some 24), .build [.int .i64 0, .string ⟨#[]⟩, .string ⟨#[]⟩, .bool false, .int .i64 0, .int .i64 0] [(0, 1, (.v (.int .i64 7))), (5, 1, (.t 23))], none⟩,
    ⟨(some 25), .iaddr 6 (.t 20) (.v (.int .i64 0)), none⟩,
    ⟨none, .store 6 (.t 25) (.t 24), none⟩])
  (.seq
  (.reg 28 none [
    ⟨(some 26), .mv (.t 0), none⟩,
    ⟨(some 27), .len (.t 26), none⟩,
    ⟨(some 28), .bin false .gtr (.t 27) (.v (.int .i64 1)), none⟩])
  (.cond (.t 28)
    (.reg 0 none [
      ⟨(some 29), .mv (.t 0), none⟩,
      ⟨(some 30), .mv (.t 1), none⟩,
      ⟨(some 31), .iaddr 6 (.t 29) (.v (.int .i64 1)), none⟩,
      ⟨(some 32), .faddr 1 (.t 31), none⟩,
      ⟨none, .store 1 (.t 32) (.t 30), none⟩])
    .skip)))))
theorem signetlaw3_flat_chk : chk Tryd.prog 65 [] = some (signetlaw3_flat_q.erase, [], 33) := by kernel_rfl
noncomputable def signetlaw3_flat_p0_step (key : ByteArray) (i : Int) (k_ : List Eng.Node) : Option ((Int × (List Eng.Node)) ⊕ ((List Eng.Node))) :=
  bif decide (i < (k_.length : Int)) then (
    gd (key.size + (⟨#[113]⟩ : ByteArray).size ≤ 9223372036854775807) <|
    (strconv_Itoa_s i).bind fun r6 =>
    gd ((key ++ (⟨#[113]⟩ : ByteArray)).size + r6.size ≤ 9223372036854775807) <|
    gd (0 ≤ i ∧ i < k_.length) <|
    gd ((Int.toNat i) < k_.length) <|
    gd (InI64 (i + (1 : Int))) <|
    some (.inl ((i + (1 : Int)), (k_.set (Int.toNat i) (⟨(1 : Int), ((key ++ (⟨#[113]⟩ : ByteArray)) ++ r6), (⟨#[]⟩ : ByteArray), false, (0 : Int), (0 : Int)⟩ : Eng.Node)))))
  else (
    some (.inr k_))
noncomputable def signetlaw3_flat_p0 (key : ByteArray) (i : Int) (k_ : List Eng.Node) : Option ((List Eng.Node)) :=
  whileO (fun x : (Int × (List Eng.Node)) => signetlaw3_flat_p0_step key x.1 x.2) (i, k_)
noncomputable def signetlaw3_flat_s (k_ : (List Eng.Node)) (key : ByteArray) : Option (List Eng.Node) :=
  (signetlaw3_flat_p0 key (0 : Int) k_).bind fun o7 =>
  gd (InI64 ((o7.length : Int) - (1 : Int))) <|
  gd (0 ≤ (0 : Int) ∧ (0 : Int) < o7.length) <|
  gd ((Int.toNat (0 : Int)) < o7.length) <|
  bif decide ((1 : Int) < ((o7.set (Int.toNat (0 : Int)) (⟨(7 : Int), (⟨#[]⟩ : ByteArray), (⟨#[]⟩ : ByteArray), false, (0 : Int), ((o7.length : Int) - (1 : Int))⟩ : Eng.Node)).length : Int)) then (
    gd (0 ≤ (1 : Int) ∧ (1 : Int) < (o7.set (Int.toNat (0 : Int)) (⟨(7 : Int), (⟨#[]⟩ : ByteArray), (⟨#[]⟩ : ByteArray), false, (0 : Int), ((o7.length : Int) - (1 : Int))⟩ : Eng.Node)).length) <|
    gd ((Int.toNat (1 : Int)) < (o7.set (Int.toNat (0 : Int)) (⟨(7 : Int), (⟨#[]⟩ : ByteArray), (⟨#[]⟩ : ByteArray), false, (0 : Int), ((o7.length : Int) - (1 : Int))⟩ : Eng.Node)).length) <|
    gd ((Int.toNat (1 : Int)) < (o7.set (Int.toNat (0 : Int)) (⟨(7 : Int), (⟨#[]⟩ : ByteArray), (⟨#[]⟩ : ByteArray), false, (0 : Int), ((o7.length : Int) - (1 : Int))⟩ : Eng.Node)).length) <|
    some ((o7.set (Int.toNat (0 : Int)) (⟨(7 : Int), (⟨#[]⟩ : ByteArray), (⟨#[]⟩ : ByteArray), false, (0 : Int), ((o7.length : Int) - (1 : Int))⟩ : Eng.Node)).set (Int.toNat (1 : Int)) (⟨((o7.set (Int.toNat (0 : Int)) (⟨(7 : Int), (⟨#[]⟩ : ByteArray), (⟨#[]⟩ : ByteArray), false, (0 : Int), ((o7.length : Int) - (1 : Int))⟩ : Eng.Node)).getD (Int.toNat (1 : Int)) (ET.dft .node)).kind, key, ((o7.set (Int.toNat (0 : Int)) (⟨(7 : Int), (⟨#[]⟩ : ByteArray), (⟨#[]⟩ : ByteArray), false, (0 : Int), ((o7.length : Int) - (1 : Int))⟩ : Eng.Node)).getD (Int.toNat (1 : Int)) (ET.dft .node)).text, ((o7.set (Int.toNat (0 : Int)) (⟨(7 : Int), (⟨#[]⟩ : ByteArray), (⟨#[]⟩ : ByteArray), false, (0 : Int), ((o7.length : Int) - (1 : Int))⟩ : Eng.Node)).getD (Int.toNat (1 : Int)) (ET.dft .node)).whole, ((o7.set (Int.toNat (0 : Int)) (⟨(7 : Int), (⟨#[]⟩ : ByteArray), (⟨#[]⟩ : ByteArray), false, (0 : Int), ((o7.length : Int) - (1 : Int))⟩ : Eng.Node)).getD (Int.toNat (1 : Int)) (ET.dft .node)).int, ((o7.set (Int.toNat (0 : Int)) (⟨(7 : Int), (⟨#[]⟩ : ByteArray), (⟨#[]⟩ : ByteArray), false, (0 : Int), ((o7.length : Int) - (1 : Int))⟩ : Eng.Node)).getD (Int.toNat (1 : Int)) (ET.dft .node)).kids⟩ : Eng.Node)))
  else (
    some (o7.set (Int.toNat (0 : Int)) (⟨(7 : Int), (⟨#[]⟩ : ByteArray), (⟨#[]⟩ : ByteArray), false, (0 : Int), ((o7.length : Int) - (1 : Int))⟩ : Eng.Node)))
noncomputable def signetlaw3_flat_G : Nat → Option CQ := tblQ [(105, strconv_Itoa_w)]
theorem signetlaw3_flat_Gok : ∀ f C, signetlaw3_flat_G f = some C → ValidQ Tryd.prog f C := tblQ_valid ⟨strconv_Itoa_ok, trivial⟩
def signetlaw3_flat_d0 := (dQS (dCons (dSl 0 (dVC (dCO (dO 0)))) (dCons (dSl 1 (dVC (dCO dS))) (dCons (dSl 4 (dVC (dCO (dI .i64)))) dNil))) (dCons (dRow .node 36) dNil))
noncomputable def signetlaw3_flat_l0 : SubQ := fun S R kn kx kr => (Dec.d signetlaw3_flat_d0 S).bind fun x => (signetlaw3_flat_p0 x.1.2.1 x.1.2.2.1 x.2.1).bind fun r => kx 0 ⟨[(0, [], .c (.o (.own 0))), (1, [], .c (.o (.val (.string x.1.2.1))))], [], [.row .node 36 r]⟩
noncomputable def signetlaw3_flat_L : Nat → SubQ := tblL [(0, signetlaw3_flat_l0)]
theorem signetlaw3_flat_p0_eq (key : ByteArray) (i : Int) (k_ : List Eng.Node) (R : Type) (kn : QS → Option R) (kx : Nat → QS → Option R) (kr : QS → Option R) :
    interpQ signetlaw3_flat_L signetlaw3_flat_G 1 5 33 signetlaw3_flat_b0 ⟨[(0, [], .c (.o (.own 0))), (1, [], .c (.o (.val (.string key)))), (4, [], .c (.o (.val (.int .i64 i))))], [], [.row .node 36 k_]⟩ kn kx kr = (signetlaw3_flat_p0 key i k_).bind fun r => kx 0 ⟨[(0, [], .c (.o (.own 0))), (1, [], .c (.o (.val (.string key))))], [], [.row .node 36 r]⟩ := by
  refine loop_piece (step := fun x => signetlaw3_flat_p0_step key x.1 x.2) (enc := fun x => ⟨[(0, [], .c (.o (.own 0))), (1, [], .c (.o (.val (.string key)))), (4, [], .c (.o (.val (.int .i64 x.1))))], [], [.row .node 36 x.2]⟩) (ko := fun r => kx 0 ⟨[(0, [], .c (.o (.own 0))), (1, [], .c (.o (.val (.string key))))], [], [.row .node 36 r]⟩) ?_ ?_ (i, k_)
  · intro x; kernel_rfl
  · intro x ki; simp only [signetlaw3_flat_p0_step, -eq_self, bind_cond, bind_gd, Option.bind_assoc, Option.bind_some, Sum.elim_inl, Sum.elim_inr, bind_elim]; kernel_rfl
theorem signetlaw3_flat_sub0 : SubOK signetlaw3_flat_L signetlaw3_flat_G 1 5 33 0 signetlaw3_flat_b0 := sub_ok' signetlaw3_flat_d0 (fun x R kn kx kr => (signetlaw3_flat_p0 x.1.2.1 x.1.2.2.1 x.2.1).bind fun r => kx 0 ⟨[(0, [], .c (.o (.own 0))), (1, [], .c (.o (.val (.string x.1.2.1))))], [], [.row .node 36 r]⟩) (by kernel_rfl) fun x R kn kx kr => signetlaw3_flat_p0_eq x.1.2.1 x.1.2.2.1 x.2.1 R kn kx kr
theorem signetlaw3_flat_subs : subsOK signetlaw3_flat_L signetlaw3_flat_G 1 5 33 signetlaw3_flat_q := subs_of (show AllSub signetlaw3_flat_L signetlaw3_flat_G 1 5 33 [(0, signetlaw3_flat_b0)] from ⟨signetlaw3_flat_sub0, trivial⟩)
theorem signetlaw3_flat_eq (k_ : (List Eng.Node)) (key : ByteArray) (R : Type) (k : SV → List SB → Option R) :
    fnQ signetlaw3_flat_L signetlaw3_flat_G 5 33 signetlaw3_flat_q [] [.c (.o (.own 0)), .c (.o (.val (.string key)))] [.row .node 36 k_] k = (signetlaw3_flat_s k_ key).bind fun r => k (.tup []) [.row .node 36 r] := by
  simp only [signetlaw3_flat_s, -eq_self, bind_cond, bind_gd, Option.bind_assoc, Option.bind_some, Sum.elim_inl, Sum.elim_inr, bind_elim]
  kernel_rfl
def signetlaw3_flat_da := (dCons (dVC (dCO (dO 0))) (dCons (dVC (dCO dS)) dNil))
def signetlaw3_flat_db := (dCons (dRow .node 36) dNil)
noncomputable def signetlaw3_flat_c : CS := fun args hp R k => (Dec.d signetlaw3_flat_da args).bind fun x => (Dec.d signetlaw3_flat_db hp).bind fun y => (signetlaw3_flat_s y.1 x.2.1).bind fun r => k (.tup []) [.row .node 36 r]
theorem signetlaw3_flat_val : ValidS Tryd.prog 65 signetlaw3_flat_c :=
  val_ok signetlaw3_flat_chk 5 signetlaw3_flat_Gok signetlaw3_flat_da signetlaw3_flat_db 1 (fun x y R k => (signetlaw3_flat_s y.1 x.2.1).bind fun r => k (.tup []) [.row .node 36 r]) (by kernel_rfl)
    (fun x y R k => by simp only [Option.bind_assoc, Option.bind_some]) (fun x => Nat.le_of_ble_eq_true rfl) (fun y => rfl) signetlaw3_flat_subs fun x y => signetlaw3_flat_eq y.1 x.2.1 _ _
noncomputable def signetlaw3_flat_w : CQ := prepQ [(0, none, some (.node, 36))] (liftQ [true] signetlaw3_flat_c)
theorem signetlaw3_flat_ok : ValidQ Tryd.prog 65 signetlaw3_flat_w := prep_loud signetlaw3_flat_val

/-! ### signet/signetlaw3.flattened -/
def signetlaw3_flattened_b0 : IQ :=
  (.loop [0, 1, 2, 7, 14]
    (.seq
    (.seq
    (.reg 78 none [
      ⟨(some 75), .mv (.t 14), none⟩,
      ⟨(some 76), .mv (.t 0), none⟩,
      ⟨(some 77), .len (.t 76), none⟩,
      ⟨(some 78), .bin false .lss (.t 75) (.t 77), none⟩])
    (.cond (.t 78)
      .skip
      (.canon [] [0, 1, 2, 7] (.exit 0))))
    (.seq
    (.block 1
      (.reg 0 none [
        ⟨(some 81), .mv (.t 0), none⟩,
        ⟨(some 82), .mv (.t 14), none⟩,
        ⟨(some 83), .mv (.t 7), none⟩,
        ⟨(some 84), .mv (.t 14), none⟩,
        ⟨(some 85), .iaddr 6 (.t 83) (.t 84), none⟩,
        ⟨(some 86), .load (some 6) (.t 85), none⟩,
        ⟨(some 87), .iaddr 6 (.t 81) (.t 82), none⟩,
        ⟨none, .store 6 (.t 87) (.t 86), none⟩]))
    (.reg 14 none [
      ⟨(some 79), .mv (.t 14), none⟩,
      ⟨(some 80), .bin false .add (.t 79) (.v (.int .i64 1)), none⟩,
      ⟨(some 14), .mv (.t 80), none⟩]))))
def signetlaw3_flattened_q : IQ :=
  (.seq
  (.reg 6 none [
    ⟨(some 6), .mv (.v (.bool false)), none⟩])
  (.seq
  (.reg 7 none [
    ⟨(some 19), .mv (.t 0), none⟩,
    ⟨(some 20), .call 32 [(.t 19)], none⟩,
    ⟨(some 7), .mv (.t 20), none⟩])
  (.seq
  (.reg 8 none [
    ⟨(some 21), .mv (.t 0), none⟩,
    ⟨(some 22), .call 32 [(.t 21)], none⟩,
    ⟨(some 8), .mv (.t 22), none⟩])
  (.seq
  (.reg 25 none [
    ⟨(some 23), .mv (.t 8), none⟩,
    ⟨(some 24), .mv (.t 2), none⟩,
    ⟨(some 25), .call 65 [(.t 23), (.t 24)], none⟩])
  (.seq
  (.reg 9 none [
    ⟨(some 26), .mv (.t 8), none⟩,
    ⟨(some 27), .call 18 [(.t 26)], none⟩,
    ⟨(some 9), .mv (.t 27), none⟩])
  (.seq
  (.seq
  (.reg 29 none [
    ⟨(some 28), .mv (.t 9), none⟩,
    ⟨(some 29), .un .not (.t 28), none⟩])
  (.cond (.t 29)
    (.seq
    (.reg 6 none [
      ⟨(some 6), .mv (.v (.bool true)), none⟩])
    (.canon [] [6] .ret))
    .skip))
  (.seq
  (.reg 33 none [
    ⟨(some 30), .mv (.t 0), none⟩,
    ⟨(some 31), .mv (.t 1), none⟩,
    ⟨(some 32), .mv (.t 2), none⟩,
    ⟨(some 33), .call 24 [(.t 30), (.t 31), (.t 32)], none⟩])
  (.seq
  (.reg 36 none [
    ⟨(some 34), .mv (.t 0), none⟩,
    ⟨(some 35), .mv (.t 1), none⟩,
    ⟨(some 36), .call 26 [(.t 34), (.t 35)], none⟩])
  (.seq
  (.reg 39 none [
    ⟨(some 37), .mv (.t 0), none⟩,
    ⟨(some 38), .mv (.t 1), none⟩,
    ⟨(some 39), .call 25 [(.t 37), (.t 38)], none⟩])
  (.seq
  (.reg 42 none [
    ⟨(some 40), .mv (.t 0), none⟩,
    ⟨(some 41), .mv (.t 2), none⟩,
    ⟨(some 42), .call 65 [(.t 40), (.t 41)], none⟩])
  (.seq
  (.reg 10 none [
    ⟨(some 43), .mv (.t 0), none⟩,
    ⟨(some 44), .mv (.t 1), none⟩,
    ⟨(some 45), .mv (.t 2), none⟩,
    ⟨(some 46), .call 24 [(.t 43), (.t 44), (.t 45)], none⟩,
    ⟨(some 10), .mv (.t 46), none⟩])
  (.seq
  (.reg 11 none [
    ⟨(some 47), .mv (.t 0), none⟩,
    ⟨(some 48), .mv (.t 1), none⟩,
    ⟨(some 49), .call 26 [(.t 47), (.t 48)], none⟩,
    ⟨(some 11), .mv (.t 49), none⟩])
  (.seq
  (.reg 12 none [
    ⟨(some 50), .mv (.t 0), none⟩,
    ⟨(some 51), .mv (.t 1), none⟩,
    ⟨(some 52), .call 25 [(.t 50), (.t 51)], none⟩,
    ⟨(some 12), .mv (.t 52), none⟩])
  (.seq
  (.reg 13 none [
    ⟨(some 53), .mv (.t 8), none⟩,
    ⟨(some 54), .mv (.t 1), none⟩,
    ⟨(some 55), .call 28 [(.t 53), (.t 54)], none⟩,
    ⟨(some 13), .mv (.t 55), none⟩])
  (.seq
  (.seq
  (.reg 74 none [
    ⟨(some 56), .mv (.t 10), none⟩,
    ⟨(some 57), .mv (.t 8), none⟩,
    ⟨(some 58), .mv (.t 1), none⟩,
    ⟨(some 59), .mv (.t 2), none⟩,
    ⟨(some 60), .call 29 [(.t 57), (.t 58), (.t 59)], none⟩,
    ⟨(some 61), .bin false .neq (.t 56) (.t 60), none⟩,
    ⟨(some 62), .mv (.t 61), none⟩,
    ⟨(some 63), .mv (.t 11), some (62, false)⟩,
    ⟨(some 64), .mv (.t 8), some (62, false)⟩,
    ⟨(some 65), .mv (.t 1), some (62, false)⟩,
    ⟨(some 66), .call 31 [(.t 64), (.t 65)], some (62, false)⟩,
    ⟨(some 67), .bin false .neq (.t 63) (.t 66), some (62, false)⟩,
    ⟨(some 68), .pick (.t 62) (.v (.bool true)) (.t 67), none⟩,
    ⟨(some 69), .mv (.t 68), none⟩,
    ⟨(some 70), .mv (.t 12), some (69, false)⟩,
    ⟨(some 71), .mv (.t 13), some (69, false)⟩,
    ⟨(some 72), .call 30 [(.t 70), (.t 71)], some (69, false)⟩,
    ⟨(some 73), .un .not (.t 72), some (69, false)⟩,
    ⟨(some 74), .pick (.t 69) (.v (.bool true)) (.t 73), none⟩])
  (.cond (.t 74)
    (.seq
    (.reg 6 none [
      ⟨(some 6), .mv (.v (.bool false)), none⟩])
    (.canon [] [6] .ret))
    .skip))
  (.seq
  (.seq
  (.reg 14 none [
    ⟨(some 14), .mv (.v (.int .i64 0)), none⟩])
  (.block 0
    (.canon [] [0, 1, 2, 7, 14] (.sub 0 signetlaw3_flattened_b0))))
  (.seq
  (.reg 15 none [
    ⟨(some 88), .mv (.t 0), none⟩,
    ⟨(some 89), .mv (.t 1), none⟩,
    ⟨(some 90), .mv (.t 2), none⟩,
    ⟨(some 91), .call 24 [(.t 88), (.t 89), (.t 90)], none⟩,
    ⟨(some 15), .mv (.t 91), none⟩])
  (.seq
  (.reg 16 none [
    ⟨(some 92), .mv (.t 0), none⟩,
    ⟨(some 93), .mv (.t 1), none⟩,
    ⟨(some 94), .call 26 [(.t 92), (.t 93)], none⟩,
    ⟨(some 16), .mv (.t 94), none⟩])
  (.seq
  (.reg 17 none [
    ⟨(some 95), .mv (.t 0), none⟩,
    ⟨(some 96), .mv (.t 1), none⟩,
    ⟨(some 97), .call 25 [(.t 95), (.t 96)], none⟩,
    ⟨(some 17), .mv (.t 97), none⟩])
  (.seq
  (.reg 18 none [
    ⟨(some 98), .mv (.t 7), none⟩,
    ⟨(some 99), .mv (.t 1), none⟩,
    ⟨(some 100), .call 28 [(.t 98), (.t 99)], none⟩,
    ⟨(some 18), .mv (.t 100), none⟩])
  (.seq
  (.reg 6 none [
    ⟨(some 101), .mv (.t 15), none⟩,
    ⟨(some 102), .mv (.t 7), none⟩,
    ⟨(some 103), .mv (.t 1), none⟩,
    ⟨(some 104), .mv (.t 2), none⟩,
    ⟨(some 105), .call 29 [(.t 102), (.t 103), (.t 104)], none⟩,
    ⟨(some 106), .bin false .eql (.t 101) (.t 105), none⟩,
    ⟨(some 107), .mv (.t 106), none⟩,
    ⟨(some 108), .mv (.t 16), some (107, true)⟩,
    ⟨(some 109), .mv (.t 7), some (107, true)⟩,
    ⟨(some 110), .mv (.t 1), some (107, true)⟩,
    ⟨(some 111), .call 31 [(.t 109), (.t 110)], some (107, true)⟩,
    ⟨(some 112), .bin false .eql (.t 108) (.t 111), some (107, true)⟩,
    ⟨(some 113), .pick (.t 107) (.t 112) (.v (.bool false)), none⟩,
    ⟨(some 114), .mv (.t 113), none⟩,
    ⟨(some 115), .mv (.t 17), some (114, true)⟩,
    ⟨(some 116), .mv (.t 18), some (114, true)⟩,
    ⟨(some 117), .call 30 [(.t 115), (.t 116)], some (114, true)⟩,
    ⟨(some 118), .pick (.t 114) (.t 117) (.v (.bool false)), none⟩,
    ⟨(some 6), .mv (.t 118), none⟩])
  (.canon [] [6] .ret))))))))))))))))))))))
theorem signetlaw3_flattened_chk : chk Tryd.prog 33 [] = some (signetlaw3_flattened_q.erase, [.tmp 6], 119) := by kernel_rfl
noncomputable def signetlaw3_flattened_p0_step (i : Int) (k_ : List Eng.Node) (was : List Eng.Node) : Option ((Int × (List Eng.Node)) ⊕ ((List Eng.Node))) :=
  bif decide (i < (k_.length : Int)) then (
    gd (0 ≤ i ∧ i < was.length) <|
    gd ((Int.toNat i) < was.length) <|
    gd (0 ≤ i ∧ i < k_.length) <|
    gd ((Int.toNat i) < k_.length) <|
    gd (InI64 (i + (1 : Int))) <|
    some (.inl ((i + (1 : Int)), (k_.set (Int.toNat i) (was.getD (Int.toNat i) (ET.dft .node))))))
  else (
    some (.inr k_))
noncomputable def signetlaw3_flattened_p0 (i : Int) (k_ : List Eng.Node) (was : List Eng.Node) : Option ((List Eng.Node)) :=
  whileO (fun x : (Int × (List Eng.Node)) => signetlaw3_flattened_p0_step x.1 x.2 was) (i, k_)
noncomputable def signetlaw3_flattened_s (k_ : (List Eng.Node)) (at_ : Int) (key : ByteArray) : Option (List Eng.Node × Bool) :=
  (signetref3_Twin_s k_).bind fun r51 =>
  (signetref3_Twin_s k_).bind fun r52 =>
  (signetlaw3_flat_s r52 key).bind fun r53 =>
  (signetref3_Shaped_s r53).bind fun r54 =>
  bif (!r54) then (
    some (k_, true))
  else (
    (json_Member_s k_ at_ key).bind fun r55 =>
    (json_Behind_s k_ at_).bind fun r56 =>
    (json_Kids_s k_ at_).bind fun r57 =>
    (signetlaw3_flat_s k_ key).bind fun r58 =>
    (json_Member_s r58 at_ key).bind fun r59 =>
    (json_Behind_s r58 at_).bind fun r60 =>
    (json_Kids_s r58 at_).bind fun r61 =>
    (signetref3_Kids_s r53 at_).bind fun r62 =>
    (signetref3_Member_s r53 at_ key).bind fun r63 =>
    bif (!decide (r59 = r63)) then (
      some (r58, false))
    else (
      (signetref3_Behind_s r53 at_).bind fun r64 =>
      bif (!decide (r60 = r64)) then (
        some (r58, false))
      else (
        (signetlaw3_sameInts_s r61 r62).bind fun r65 =>
        bif (!r65) then (
          some (r58, false))
        else (
          (signetlaw3_flattened_p0 (0 : Int) r58 r51).bind fun o66 =>
          (json_Member_s o66 at_ key).bind fun r67 =>
          (json_Behind_s o66 at_).bind fun r68 =>
          (json_Kids_s o66 at_).bind fun r69 =>
          (signetref3_Kids_s r51 at_).bind fun r70 =>
          (signetref3_Member_s r51 at_ key).bind fun r71 =>
          bif decide (r67 = r71) then (
            (signetref3_Behind_s r51 at_).bind fun r72 =>
            bif decide (r68 = r72) then (
              (signetlaw3_sameInts_s r69 r70).bind fun r73 =>
              some (o66, r73))
            else (
              some (o66, false)))
          else (
            some (o66, false))))))
noncomputable def signetlaw3_flattened_G : Nat → Option CQ := tblQ [(32, signetref3_Twin_w), (65, signetlaw3_flat_w), (18, signetref3_Shaped_w), (24, json_Member_w), (26, json_Behind_w), (25, json_Kids_w), (28, signetref3_Kids_w), (29, signetref3_Member_w), (31, signetref3_Behind_w), (30, signetlaw3_sameInts_w)]
theorem signetlaw3_flattened_Gok : ∀ f C, signetlaw3_flattened_G f = some C → ValidQ Tryd.prog f C := tblQ_valid ⟨signetref3_Twin_ok, signetlaw3_flat_ok, signetref3_Shaped_ok, json_Member_ok, json_Behind_ok, json_Kids_ok, signetref3_Kids_ok, signetref3_Member_ok, signetref3_Behind_ok, signetlaw3_sameInts_ok, trivial⟩
def signetlaw3_flattened_d0 := (dQS (dCons (dSl 0 (dVC (dCO (dO 0)))) (dCons (dSl 1 (dVC (dCO (dI .i64)))) (dCons (dSl 2 (dVC (dCO dS))) (dCons (dSl 7 (dVC (dCO (dO 1)))) (dCons (dSl 14 (dVC (dCO (dI .i64)))) dNil))))) (dCons (dRow .node 36) (dCons (dRow .node 36) dNil)))
noncomputable def signetlaw3_flattened_l0 : SubQ := fun S R kn kx kr => (Dec.d signetlaw3_flattened_d0 S).bind fun x => (signetlaw3_flattened_p0 x.1.2.2.2.2.1 x.2.1 x.2.2.1).bind fun r => kx 0 ⟨[(0, [], .c (.o (.own 0))), (1, [], .c (.o (.val (.int .i64 x.1.2.1)))), (2, [], .c (.o (.val (.string x.1.2.2.1)))), (7, [], .c (.o (.own 1)))], [], [.row .node 36 r, .row .node 36 x.2.2.1]⟩
noncomputable def signetlaw3_flattened_L : Nat → SubQ := tblL [(0, signetlaw3_flattened_l0)]
theorem signetlaw3_flattened_p0_eq (at_ : Int) (key : ByteArray) (i : Int) (k_ : List Eng.Node) (was : List Eng.Node) (R : Type) (kn : QS → Option R) (kx : Nat → QS → Option R) (kr : QS → Option R) :
    interpQ signetlaw3_flattened_L signetlaw3_flattened_G 1 19 119 signetlaw3_flattened_b0 ⟨[(0, [], .c (.o (.own 0))), (1, [], .c (.o (.val (.int .i64 at_)))), (2, [], .c (.o (.val (.string key)))), (7, [], .c (.o (.own 1))), (14, [], .c (.o (.val (.int .i64 i))))], [], [.row .node 36 k_, .row .node 36 was]⟩ kn kx kr = (signetlaw3_flattened_p0 i k_ was).bind fun r => kx 0 ⟨[(0, [], .c (.o (.own 0))), (1, [], .c (.o (.val (.int .i64 at_)))), (2, [], .c (.o (.val (.string key)))), (7, [], .c (.o (.own 1)))], [], [.row .node 36 r, .row .node 36 was]⟩ := by
  refine loop_piece (step := fun x => signetlaw3_flattened_p0_step x.1 x.2 was) (enc := fun x => ⟨[(0, [], .c (.o (.own 0))), (1, [], .c (.o (.val (.int .i64 at_)))), (2, [], .c (.o (.val (.string key)))), (7, [], .c (.o (.own 1))), (14, [], .c (.o (.val (.int .i64 x.1))))], [], [.row .node 36 x.2, .row .node 36 was]⟩) (ko := fun r => kx 0 ⟨[(0, [], .c (.o (.own 0))), (1, [], .c (.o (.val (.int .i64 at_)))), (2, [], .c (.o (.val (.string key)))), (7, [], .c (.o (.own 1)))], [], [.row .node 36 r, .row .node 36 was]⟩) ?_ ?_ (i, k_)
  · intro x; kernel_rfl
  · intro x ki; simp only [signetlaw3_flattened_p0_step, -eq_self, bind_cond, bind_gd, Option.bind_assoc, Option.bind_some, Sum.elim_inl, Sum.elim_inr, bind_elim]; kernel_rfl
theorem signetlaw3_flattened_sub0 : SubOK signetlaw3_flattened_L signetlaw3_flattened_G 1 19 119 0 signetlaw3_flattened_b0 := sub_ok' signetlaw3_flattened_d0 (fun x R kn kx kr => (signetlaw3_flattened_p0 x.1.2.2.2.2.1 x.2.1 x.2.2.1).bind fun r => kx 0 ⟨[(0, [], .c (.o (.own 0))), (1, [], .c (.o (.val (.int .i64 x.1.2.1)))), (2, [], .c (.o (.val (.string x.1.2.2.1)))), (7, [], .c (.o (.own 1)))], [], [.row .node 36 r, .row .node 36 x.2.2.1]⟩) (by kernel_rfl) fun x R kn kx kr => signetlaw3_flattened_p0_eq x.1.2.1 x.1.2.2.1 x.1.2.2.2.2.1 x.2.1 x.2.2.1 R kn kx kr
theorem signetlaw3_flattened_subs : subsOK signetlaw3_flattened_L signetlaw3_flattened_G 1 19 119 signetlaw3_flattened_q := subs_of (show AllSub signetlaw3_flattened_L signetlaw3_flattened_G 1 19 119 [(0, signetlaw3_flattened_b0)] from ⟨signetlaw3_flattened_sub0, trivial⟩)
theorem signetlaw3_flattened_eq (k_ : (List Eng.Node)) (at_ : Int) (key : ByteArray) (R : Type) (k : SV → List SB → Option R) :
    fnQ signetlaw3_flattened_L signetlaw3_flattened_G 19 119 signetlaw3_flattened_q [.tmp 6] [.c (.o (.own 0)), .c (.o (.val (.int .i64 at_))), .c (.o (.val (.string key)))] [.row .node 36 k_] k = (signetlaw3_flattened_s k_ at_ key).bind fun r => k (.c (.o (.val (.bool r.2)))) [.row .node 36 r.1] := by
  simp only [signetlaw3_flattened_s, -eq_self, bind_cond, bind_gd, Option.bind_assoc, Option.bind_some, Sum.elim_inl, Sum.elim_inr, bind_elim]
  kernel_rfl
def signetlaw3_flattened_da := (dCons (dVC (dCO (dO 0))) (dCons (dVC (dCO (dI .i64))) (dCons (dVC (dCO dS)) dNil)))
def signetlaw3_flattened_db := (dCons (dRow .node 36) dNil)
noncomputable def signetlaw3_flattened_c : CS := fun args hp R k => (Dec.d signetlaw3_flattened_da args).bind fun x => (Dec.d signetlaw3_flattened_db hp).bind fun y => (signetlaw3_flattened_s y.1 x.2.1 x.2.2.1).bind fun r => k (.c (.o (.val (.bool r.2)))) [.row .node 36 r.1]
theorem signetlaw3_flattened_val : ValidS Tryd.prog 33 signetlaw3_flattened_c :=
  val_ok signetlaw3_flattened_chk 19 signetlaw3_flattened_Gok signetlaw3_flattened_da signetlaw3_flattened_db 1 (fun x y R k => (signetlaw3_flattened_s y.1 x.2.1 x.2.2.1).bind fun r => k (.c (.o (.val (.bool r.2)))) [.row .node 36 r.1]) (by kernel_rfl)
    (fun x y R k => by simp only [Option.bind_assoc, Option.bind_some]) (fun x => Nat.le_of_ble_eq_true rfl) (fun y => rfl) signetlaw3_flattened_subs fun x y => signetlaw3_flattened_eq y.1 x.2.1 x.2.2.1 _ _
noncomputable def signetlaw3_flattened_w : CQ := settQ [0] (prepQ [(0, none, some (.node, 36))] (liftQ [true] signetlaw3_flattened_c))
theorem signetlaw3_flattened_ok : ValidQ Tryd.prog 33 signetlaw3_flattened_w := (fun h => sett_valid (prep_loud h)) signetlaw3_flattened_val

/-! ### signet/signetlaw3.JsonFinds -/
def signetlaw3_JsonFinds_b1 : IQ :=
  (.join [] [1, 2, 7, 9, 13, 14]
  (.seq
  (.reg 97 none [
    ⟨(some 88), .mv (.t 14), none⟩,
    ⟨(some 89), .bin false .gtr (.t 88) (.v (.int .i64 0)), none⟩,
    ⟨(some 90), .mv (.t 89), none⟩,
    ⟨(some 91), .mv (.t 7), some (90, true)⟩,
    ⟨(some 92), .mv (.t 14), some (90, true)⟩,
    ⟨(some 93), .iaddr 6 (.t 91) (.t 92), some (90, true)⟩,
    ⟨(some 94), .faddr 5 (.t 93), some (90, true)⟩,
    ⟨(some 95), .load none (.t 94), some (90, true)⟩,
    ⟨(some 96), .bin false .eql (.t 95) (.v (.int .i64 0)), some (90, true)⟩,
    ⟨(some 97), .pick (.t 90) (.t 96) (.v (.bool false)), none⟩])
  (.cond (.t 97)
    (.seq
    (.reg 0 none [
      ⟨(some 98), .mv (.t 7), none⟩,
      ⟨(some 99), .mv (.t 14), none⟩,
      ⟨(some 100), .iaddr 6 (.t 98) (.t 99), none⟩,
      ⟨(some 101), .faddr 0 (.t 100), none⟩,
      ⟨none, .store 1 (.t 101) (.v (.int .i64 6)), none⟩])
    (.seq
    (.reg 0 none [
      ⟨(some 102), .mv (.t 7), none⟩,
      ⟨(some 103), .mv (.t 14), none⟩,
      ⟨(some 104), .iaddr 6 (.t 102) (.t 103), none⟩,
      ⟨(some 105), .faddr 2 (.t 104), none⟩,
      ⟨none, .store 1 (.t 105) (.v (.string ⟨#[]⟩)), none⟩])
    (.seq
    (.reg 0 none [
      ⟨(some 106), .mv (.t 7), none⟩,
      ⟨(some 107), .mv (.t 14), none⟩,
      ⟨(some 108), .iaddr 6 (.t 106) (.t 107), none⟩,
      ⟨(some 109), .faddr 3 (.t 108), none⟩,
      ⟨none, .store 1 (.t 109) (.v (.bool false)), none⟩])
    (.reg 0 none [
      ⟨(some 110), .mv (.t 7), none⟩,
      ⟨(some 111), .mv (.t 14), none⟩,
      ⟨(some 112), .iaddr 6 (.t 110) (.t 111), none⟩,
      ⟨(some 113), .faddr 4 (.t 112), none⟩,
      ⟨none, .store 1 (.t 113) (.v (.int .i64 0)), none⟩]))))
    .skip)))
def signetlaw3_JsonFinds_b0 : IQ :=
  (.loop [1, 2, 7, 9, 13, 14]
    (.seq
    (.seq
    (.reg 69 none [
      ⟨(some 66), .mv (.t 14), none⟩,
      ⟨(some 67), .mv (.t 7), none⟩,
      ⟨(some 68), .len (.t 67), none⟩,
      ⟨(some 69), .bin false .lss (.t 66) (.t 68), none⟩])
    (.cond (.t 69)
      .skip
      (.canon [] [1, 2, 7, 9, 13] (.exit 0))))
    (.seq
    (.block 1
      (.seq
      (.seq
      (.reg 77 none [
        ⟨(some 72), .mv (.t 7), none⟩,
        ⟨(some 73), .mv (.t 14), none⟩,
        ⟨(some 74), .iaddr 6 (.t 72) (.t 73), none⟩,
        ⟨(some 75), .faddr 1 (.t 74), none⟩,
        ⟨(some 76), .load none (.t 75), none⟩,
        ⟨(some 77), .bin false .neq (.t 76) (.v (.string ⟨#[]⟩)), none⟩])
      (.cond (.t 77)
        (.reg 0 none [
          ⟨(some 78), .mv (.t 7), none⟩,
          ⟨(some 79), .mv (.t 14), none⟩,
          ⟨(some 80), .mv (.t 7), none⟩,
          ⟨(some 81), .mv (.t 14), none⟩,
          ⟨(some 82), .iaddr 6 (.t 80) (.t 81), none⟩,
          ⟨(some 83), .faddr 1 (.t 82), none⟩,
          ⟨(some 84), .load none (.t 83), none⟩,
          ⟨(some 85), .bin false .add (.t 84) (.v (.string ⟨#[113]⟩)), none⟩,
          ⟨(some 86), .iaddr 6 (.t 78) (.t 79), none⟩,
          ⟨(some 87), .faddr 1 (.t 86), none⟩,
          ⟨none, .store 1 (.t 87) (.t 85), none⟩])
        .skip))
      (.canon [] [1, 2, 7, 9, 13, 14] (.sub 1 signetlaw3_JsonFinds_b1))))
    (.reg 14 none [
      ⟨(some 70), .mv (.t 14), none⟩,
      ⟨(some 71), .bin false .add (.t 70) (.v (.int .i64 1)), none⟩,
      ⟨(some 14), .mv (.t 71), none⟩]))))
def signetlaw3_JsonFinds_q : IQ :=
  (.seq
  (.reg 6 none [
    ⟨(some 6), .mv (.v (.bool false)), none⟩])
  (.seq
  (.seq
  (.reg 19 none [
    ⟨(some 18), .mv (.t 0), none⟩,
    ⟨(some 19), .call 14 [(.t 18)], none⟩])
  (.cond (.t 19)
    (.seq
    (.reg 6 none [
      ⟨(some 6), .mv (.v (.bool true)), none⟩])
    (.canon [] [6] .ret))
    .skip))
  (.seq
  (.reg 7 none [
    ⟨(some 20), .mv (.t 0), none⟩,
    ⟨(some 21), .call 23 [(.t 20)], none⟩,
    ⟨(some 7), .mv (.t 21), none⟩])
  (.seq
  (.reg 8 none [
    ⟨(some 22), .mv (.t 7), none⟩,
    ⟨(some 23), .mv (.t 1), none⟩,
    ⟨(some 24), .mv (.t 2), none⟩,
    ⟨(some 25), .call 24 [(.t 22), (.t 23), (.t 24)], none⟩,
    ⟨(some 8), .mv (.t 25), none⟩])
  (.seq
  (.reg 9 none [
    ⟨(some 26), .mv (.t 7), none⟩,
    ⟨(some 27), .mv (.t 1), none⟩,
    ⟨(some 28), .call 25 [(.t 26), (.t 27)], none⟩,
    ⟨(some 9), .mv (.t 28), none⟩])
  (.seq
  (.reg 10 none [
    ⟨(some 29), .mv (.t 7), none⟩,
    ⟨(some 30), .mv (.t 1), none⟩,
    ⟨(some 31), .call 26 [(.t 29), (.t 30)], none⟩,
    ⟨(some 10), .mv (.t 31), none⟩])
  (.seq
  (.reg 11 none [
    ⟨(some 32), .mv (.t 7), none⟩,
    ⟨(some 33), .mv (.t 0), none⟩,
    ⟨(some 34), .call 27 [(.t 32), (.t 33)], none⟩,
    ⟨(some 11), .mv (.t 34), none⟩])
  (.seq
  (.reg 12 none [
    ⟨(some 35), .mv (.t 0), none⟩,
    ⟨(some 36), .call 18 [(.t 35)], none⟩,
    ⟨(some 12), .mv (.t 36), none⟩])
  (.seq
  (.seq
  (.reg 42 none [
    ⟨(some 37), .mv (.t 12), none⟩,
    ⟨(some 38), .un .not (.t 37), none⟩,
    ⟨(some 39), .mv (.t 38), none⟩,
    ⟨(some 40), .mv (.t 11), some (39, false)⟩,
    ⟨(some 41), .un .not (.t 40), some (39, false)⟩,
    ⟨(some 42), .pick (.t 39) (.v (.bool true)) (.t 41), none⟩])
  (.cond (.t 42)
    (.seq
    (.reg 6 none [
      ⟨(some 43), .mv (.t 11), none⟩,
      ⟨(some 6), .mv (.t 43), none⟩])
    (.canon [] [6] .ret))
    .skip))
  (.seq
  (.reg 13 none [
    ⟨(some 44), .mv (.t 0), none⟩,
    ⟨(some 45), .mv (.t 1), none⟩,
    ⟨(some 46), .call 28 [(.t 44), (.t 45)], none⟩,
    ⟨(some 13), .mv (.t 46), none⟩])
  (.seq
  (.seq
  (.reg 65 none [
    ⟨(some 47), .mv (.t 8), none⟩,
    ⟨(some 48), .mv (.t 0), none⟩,
    ⟨(some 49), .mv (.t 1), none⟩,
    ⟨(some 50), .mv (.t 2), none⟩,
    ⟨(some 51), .call 29 [(.t 48), (.t 49), (.t 50)], none⟩,
    ⟨(some 52), .bin false .neq (.t 47) (.t 51), none⟩,
    ⟨(some 53), .mv (.t 52), none⟩,
    ⟨(some 54), .mv (.t 9), some (53, false)⟩,
    ⟨(some 55), .mv (.t 13), some (53, false)⟩,
    ⟨(some 56), .call 30 [(.t 54), (.t 55)], some (53, false)⟩,
    ⟨(some 57), .un .not (.t 56), some (53, false)⟩,
    ⟨(some 58), .pick (.t 53) (.v (.bool true)) (.t 57), none⟩,
    ⟨(some 59), .mv (.t 58), none⟩,
    ⟨(some 60), .mv (.t 10), some (59, false)⟩,
    ⟨(some 61), .mv (.t 0), some (59, false)⟩,
    ⟨(some 62), .mv (.t 1), some (59, false)⟩,
    ⟨(some 63), .call 31 [(.t 61), (.t 62)], some (59, false)⟩,
    ⟨(some 64), .bin false .neq (.t 60) (.t 63), some (59, false)⟩,
    ⟨(some 65), .pick (.t 59) (.v (.bool true)) (.t 64), none⟩])
  (.cond (.t 65)
    (.seq
    (.reg 6 none [
      ⟨(some 6), .mv (.v (.bool false)), none⟩])
    (.canon [] [6] .ret))
    .skip))
  (.seq
  (.seq
  (.reg 14 none [
    ⟨(some 14), .mv (.v (.int .i64 0)), none⟩])
  (.block 0
    (.canon [] [1, 2, 7, 9, 13, 14] (.sub 0 signetlaw3_JsonFinds_b0))))
  (.seq
  (.reg 15 none [
    ⟨(some 114), .mv (.t 7), none⟩,
    ⟨(some 115), .call 32 [(.t 114)], none⟩,
    ⟨(some 15), .mv (.t 115), none⟩])
  (.seq
  (.reg 12 none [
    ⟨(some 116), .mv (.t 15), none⟩,
    ⟨(some 117), .call 18 [(.t 116)], none⟩,
    ⟨(some 12), .mv (.t 117), none⟩])
  (.seq
  (.seq
  (.reg 119 none [
    ⟨(some 118), .mv (.t 12), none⟩,
    ⟨(some 119), .un .not (.t 118), none⟩])
  (.cond (.t 119)
    (.seq
    (.reg 6 none [
      ⟨(some 6), .mv (.v (.bool true)), none⟩])
    (.canon [] [6] .ret))
    .skip))
  (.seq
  (.reg 8 none [
    ⟨(some 120), .mv (.t 7), none⟩,
    ⟨(some 121), .mv (.t 1), none⟩,
    ⟨(some 122), .mv (.t 2), none⟩,
    ⟨(some 123), .bin false .add (.t 122) (.v (.string ⟨#[113]⟩)), none⟩,
    ⟨(some 124), .call 24 [(.t 120), (.t 121), (.t 123)], none⟩,
    ⟨(some 8), .mv (.t 124), none⟩])
  (.seq
  (.reg 16 none [
    ⟨(some 125), .mv (.t 7), none⟩,
    ⟨(some 126), .mv (.t 1), none⟩,
    ⟨(some 127), .call 25 [(.t 125), (.t 126)], none⟩,
    ⟨(some 16), .mv (.t 127), none⟩])
  (.seq
  (.reg 10 none [
    ⟨(some 128), .mv (.t 7), none⟩,
    ⟨(some 129), .mv (.t 1), none⟩,
    ⟨(some 130), .call 26 [(.t 128), (.t 129)], none⟩,
    ⟨(some 10), .mv (.t 130), none⟩])
  (.seq
  (.reg 11 none [
    ⟨(some 131), .mv (.t 7), none⟩,
    ⟨(some 132), .mv (.t 15), none⟩,
    ⟨(some 133), .call 27 [(.t 131), (.t 132)], none⟩,
    ⟨(some 11), .mv (.t 133), none⟩])
  (.seq
  (.reg 17 none [
    ⟨(some 134), .mv (.t 15), none⟩,
    ⟨(some 135), .mv (.t 1), none⟩,
    ⟨(some 136), .call 28 [(.t 134), (.t 135)], none⟩,
    ⟨(some 17), .mv (.t 136), none⟩])
  (.seq
  (.seq
  (.reg 166 none [
    ⟨(some 137), .mv (.t 8), none⟩,
    ⟨(some 138), .mv (.t 15), none⟩,
    ⟨(some 139), .mv (.t 1), none⟩,
    ⟨(some 140), .mv (.t 2), none⟩,
    ⟨(some 141), .bin false .add (.t 140) (.v (.string ⟨#[113]⟩)), none⟩,
    ⟨(some 142), .call 29 [(.t 138), (.t 139), (.t 141)], none⟩,
    ⟨(some 143), .bin false .neq (.t 137) (.t 142), none⟩,
    ⟨(some 144), .mv (.t 143), none⟩,
    ⟨(some 145), .mv (.t 16), some (144, false)⟩,
    ⟨(some 146), .mv (.t 17), some (144, false)⟩,
    ⟨(some 147), .call 30 [(.t 145), (.t 146)], some (144, false)⟩,
    ⟨(some 148), .un .not (.t 147), some (144, false)⟩,
    ⟨(some 149), .pick (.t 144) (.v (.bool true)) (.t 148), none⟩,
    ⟨(some 150), .mv (.t 149), none⟩,
    ⟨(some 151), .mv (.t 10), some (150, false)⟩,
    ⟨(some 152), .mv (.t 15), some (150, false)⟩,
    ⟨(some 153), .mv (.t 1), some (150, false)⟩,
    ⟨(some 154), .call 31 [(.t 152), (.t 153)], some (150, false)⟩,
    ⟨(some 155), .bin false .neq (.t 151) (.t 154), some (150, false)⟩,
    ⟨(some 156), .pick (.t 150) (.v (.bool true)) (.t 155), none⟩,
    ⟨(some 157), .mv (.t 156), none⟩,
    ⟨(some 158), .mv (.t 11), some (157, false)⟩,
    ⟨(some 159), .un .not (.t 158), some (157, false)⟩,
    ⟨(some 160), .pick (.t 157) (.v (.bool true)) (.t 159), none⟩,
    ⟨(some 161), .mv (.t 160), none⟩,
    ⟨(some 162), .mv (.t 9), some (161, false)⟩,
    ⟨(some 163), .mv (.t 13), some (161, false)⟩,
    ⟨(some 164), .call 30 [(.t 162), (.t 163)], some (161, false)⟩,
    ⟨(some 165), .un .not (.t 164), some (161, false)⟩,
    ⟨(some 166), .pick (.t 161) (.v (.bool true)) (.t 165), none⟩])
  (.cond (.t 166)
    (.seq
    (.reg 6 none [
      ⟨(some 6), .mv (.v (.bool false)), none⟩])
    (.canon [] [6] .ret))
    .skip))
  (.seq
  (.seq
  (.reg 174 none [
    ⟨(some 167), .mv (.t 1), none⟩,
    ⟨(some 168), .bin false .lss (.t 167) (.v (.int .i64 0)), none⟩,
    ⟨(some 169), .mv (.t 168), none⟩,
    ⟨(some 170), .mv (.t 1), some (169, false)⟩,
    ⟨(some 171), .mv (.t 7), some (169, false)⟩,
    ⟨(some 172), .len (.t 171), some (169, false)⟩,
    ⟨(some 173), .bin false .geq (.t 170) (.t 172), some (169, false)⟩,
    ⟨(some 174), .pick (.t 169) (.v (.bool true)) (.t 173), none⟩])
  (.cond (.t 174)
    (.reg 1 none [
      ⟨(some 1), .mv (.v (.int .i64 0)), none⟩])
    .skip))
  (.seq
  (.reg 6 none [
    ⟨(some 175), .mv (.t 7), none⟩,
    ⟨(some 176), .mv (.t 1), none⟩,
    ⟨(some 177), .mv (.t 2), none⟩,
    ⟨(some 178), .call 33 [(.t 175), (.t 176), (.t 177)], none⟩,
    ⟨(some 6), .mv (.t 178), none⟩])
  (.canon [] [6] .ret))))))))))))))))))))))))
theorem signetlaw3_JsonFinds_chk : chk Tryd.prog 5 [] = some (signetlaw3_JsonFinds_q.erase, [.tmp 6], 179) := by kernel_rfl
noncomputable def signetlaw3_JsonFinds_p1 (i : Int) (k__n : Nat) (h4 : List Eng.Node) : Option ((List Eng.Node)) :=
  gd ((decide ((0 : Int) < i)) = true → 0 ≤ i ∧ i < ((k__n : Nat) : Int)) <|
  gd ((decide ((0 : Int) < i)) = true → ((0) + Int.toNat i) < h4.length) <|
  gd ((decide ((0 : Int) < i)) = true → ((0) + Int.toNat i) < h4.length) <|
  bif ((decide ((0 : Int) < i)) && (decide (((h4.getD ((0) + Int.toNat i) (ET.dft .node)).kids) = (0 : Int)))) then (
    gd (0 ≤ i ∧ i < ((k__n : Nat) : Int)) <|
    gd (((0) + Int.toNat i) < h4.length) <|
    gd (((0) + Int.toNat i) < h4.length) <|
    gd (0 ≤ i ∧ i < ((k__n : Nat) : Int)) <|
    gd (((0) + Int.toNat i) < (h4.set ((0) + Int.toNat i) (⟨(6 : Int), (h4.getD ((0) + Int.toNat i) (ET.dft .node)).key, (h4.getD ((0) + Int.toNat i) (ET.dft .node)).text, (h4.getD ((0) + Int.toNat i) (ET.dft .node)).whole, (h4.getD ((0) + Int.toNat i) (ET.dft .node)).int, (h4.getD ((0) + Int.toNat i) (ET.dft .node)).kids⟩ : Eng.Node)).length) <|
    gd (((0) + Int.toNat i) < (h4.set ((0) + Int.toNat i) (⟨(6 : Int), (h4.getD ((0) + Int.toNat i) (ET.dft .node)).key, (h4.getD ((0) + Int.toNat i) (ET.dft .node)).text, (h4.getD ((0) + Int.toNat i) (ET.dft .node)).whole, (h4.getD ((0) + Int.toNat i) (ET.dft .node)).int, (h4.getD ((0) + Int.toNat i) (ET.dft .node)).kids⟩ : Eng.Node)).length) <|
    gd (0 ≤ i ∧ i < ((k__n : Nat) : Int)) <|
    gd (((0) + Int.toNat i) < ((h4.set ((0) + Int.toNat i) (⟨(6 : Int), (h4.getD ((0) + Int.toNat i) (ET.dft .node)).key, (h4.getD ((0) + Int.toNat i) (ET.dft .node)).text, (h4.getD ((0) + Int.toNat i) (ET.dft .node)).whole, (h4.getD ((0) + Int.toNat i) (ET.dft .node)).int, (h4.getD ((0) + Int.toNat i) (ET.dft .node)).kids⟩ : Eng.Node)).set ((0) + Int.toNat i) (⟨((h4.set ((0) + Int.toNat i) (⟨(6 : Int), (h4.getD ((0) + Int.toNat i) (ET.dft .node)).key, (h4.getD ((0) + Int.toNat i) (ET.dft .node)).text, (h4.getD ((0) + Int.toNat i) (ET.dft .node)).whole, (h4.getD ((0) + Int.toNat i) (ET.dft .node)).int, (h4.getD ((0) + Int.toNat i) (ET.dft .node)).kids⟩ : Eng.Node)).getD ((0) + Int.toNat i) (ET.dft .node)).kind, ((h4.set ((0) + Int.toNat i) (⟨(6 : Int), (h4.getD ((0) + Int.toNat i) (ET.dft .node)).key, (h4.getD ((0) + Int.toNat i) (ET.dft .node)).text, (h4.getD ((0) + Int.toNat i) (ET.dft .node)).whole, (h4.getD ((0) + Int.toNat i) (ET.dft .node)).int, (h4.getD ((0) + Int.toNat i) (ET.dft .node)).kids⟩ : Eng.Node)).getD ((0) + Int.toNat i) (ET.dft .node)).key, (⟨#[]⟩ : ByteArray), ((h4.set ((0) + Int.toNat i) (⟨(6 : Int), (h4.getD ((0) + Int.toNat i) (ET.dft .node)).key, (h4.getD ((0) + Int.toNat i) (ET.dft .node)).text, (h4.getD ((0) + Int.toNat i) (ET.dft .node)).whole, (h4.getD ((0) + Int.toNat i) (ET.dft .node)).int, (h4.getD ((0) + Int.toNat i) (ET.dft .node)).kids⟩ : Eng.Node)).getD ((0) + Int.toNat i) (ET.dft .node)).whole, ((h4.set ((0) + Int.toNat i) (⟨(6 : Int), (h4.getD ((0) + Int.toNat i) (ET.dft .node)).key, (h4.getD ((0) + Int.toNat i) (ET.dft .node)).text, (h4.getD ((0) + Int.toNat i) (ET.dft .node)).whole, (h4.getD ((0) + Int.toNat i) (ET.dft .node)).int, (h4.getD ((0) + Int.toNat i) (ET.dft .node)).kids⟩ : Eng.Node)).getD ((0) + Int.toNat i) (ET.dft .node)).int, ((h4.set ((0) + Int.toNat i) (⟨(6 : Int), (h4.getD ((0) + Int.toNat i) (ET.dft .node)).key, (h4.getD ((0) + Int.toNat i) (ET.dft .node)).text, (h4.getD ((0) + Int.toNat i) (ET.dft .node)).whole, (h4.getD ((0) + Int.toNat i) (ET.dft .node)).int, (h4.getD ((0) + Int.toNat i) (ET.dft .node)).kids⟩ : Eng.Node)).getD ((0) + Int.toNat i) (ET.dft .node)).kids⟩ : Eng.Node)).length) <|
    gd (((0) + Int.toNat i) < ((h4.set ((0) + Int.toNat i) (⟨(6 : Int), (h4.getD ((0) + Int.toNat i) (ET.dft .node)).key, (h4.getD ((0) + Int.toNat i) (ET.dft .node)).text, (h4.getD ((0) + Int.toNat i) (ET.dft .node)).whole, (h4.getD ((0) + Int.toNat i) (ET.dft .node)).int, (h4.getD ((0) + Int.toNat i) (ET.dft .node)).kids⟩ : Eng.Node)).set ((0) + Int.toNat i) (⟨((h4.set ((0) + Int.toNat i) (⟨(6 : Int), (h4.getD ((0) + Int.toNat i) (ET.dft .node)).key, (h4.getD ((0) + Int.toNat i) (ET.dft .node)).text, (h4.getD ((0) + Int.toNat i) (ET.dft .node)).whole, (h4.getD ((0) + Int.toNat i) (ET.dft .node)).int, (h4.getD ((0) + Int.toNat i) (ET.dft .node)).kids⟩ : Eng.Node)).getD ((0) + Int.toNat i) (ET.dft .node)).kind, ((h4.set ((0) + Int.toNat i) (⟨(6 : Int), (h4.getD ((0) + Int.toNat i) (ET.dft .node)).key, (h4.getD ((0) + Int.toNat i) (ET.dft .node)).text, (h4.getD ((0) + Int.toNat i) (ET.dft .node)).whole, (h4.getD ((0) + Int.toNat i) (ET.dft .node)).int, (h4.getD ((0) + Int.toNat i) (ET.dft .node)).kids⟩ : Eng.Node)).getD ((0) + Int.toNat i) (ET.dft .node)).key, (⟨#[]⟩ : ByteArray), ((h4.set ((0) + Int.toNat i) (⟨(6 : Int), (h4.getD ((0) + Int.toNat i) (ET.dft .node)).key, (h4.getD ((0) + Int.toNat i) (ET.dft .node)).text, (h4.getD ((0) + Int.toNat i) (ET.dft .node)).whole, (h4.getD ((0) + Int.toNat i) (ET.dft .node)).int, (h4.getD ((0) + Int.toNat i) (ET.dft .node)).kids⟩ : Eng.Node)).getD ((0) + Int.toNat i) (ET.dft .node)).whole, ((h4.set ((0) + Int.toNat i) (⟨(6 : Int), (h4.getD ((0) + Int.toNat i) (ET.dft .node)).key, (h4.getD ((0) + Int.toNat i) (ET.dft .node)).text, (h4.getD ((0) + Int.toNat i) (ET.dft .node)).whole, (h4.getD ((0) + Int.toNat i) (ET.dft .node)).int, (h4.getD ((0) + Int.toNat i) (ET.dft .node)).kids⟩ : Eng.Node)).getD ((0) + Int.toNat i) (ET.dft .node)).int, ((h4.set ((0) + Int.toNat i) (⟨(6 : Int), (h4.getD ((0) + Int.toNat i) (ET.dft .node)).key, (h4.getD ((0) + Int.toNat i) (ET.dft .node)).text, (h4.getD ((0) + Int.toNat i) (ET.dft .node)).whole, (h4.getD ((0) + Int.toNat i) (ET.dft .node)).int, (h4.getD ((0) + Int.toNat i) (ET.dft .node)).kids⟩ : Eng.Node)).getD ((0) + Int.toNat i) (ET.dft .node)).kids⟩ : Eng.Node)).length) <|
    gd (0 ≤ i ∧ i < ((k__n : Nat) : Int)) <|
    gd (((0) + Int.toNat i) < (((h4.set ((0) + Int.toNat i) (⟨(6 : Int), (h4.getD ((0) + Int.toNat i) (ET.dft .node)).key, (h4.getD ((0) + Int.toNat i) (ET.dft .node)).text, (h4.getD ((0) + Int.toNat i) (ET.dft .node)).whole, (h4.getD ((0) + Int.toNat i) (ET.dft .node)).int, (h4.getD ((0) + Int.toNat i) (ET.dft .node)).kids⟩ : Eng.Node)).set ((0) + Int.toNat i) (⟨((h4.set ((0) + Int.toNat i) (⟨(6 : Int), (h4.getD ((0) + Int.toNat i) (ET.dft .node)).key, (h4.getD ((0) + Int.toNat i) (ET.dft .node)).text, (h4.getD ((0) + Int.toNat i) (ET.dft .node)).whole, (h4.getD ((0) + Int.toNat i) (ET.dft .node)).int, (h4.getD ((0) + Int.toNat i) (ET.dft .node)).kids⟩ : Eng.Node)).getD ((0) + Int.toNat i) (ET.dft .node)).kind, ((h4.set ((0) + Int.toNat i) (⟨(6 : Int), (h4.getD ((0) + Int.toNat i) (ET.dft .node)).key, (h4.getD ((0) + Int.toNat i) (ET.dft .node)).text, (h4.getD ((0) + Int.toNat i) (ET.dft .node)).whole, (h4.getD ((0) + Int.toNat i) (ET.dft .node)).int, (h4.getD ((0) + Int.toNat i) (ET.dft .node)).kids⟩ : Eng.Node)).getD ((0) + Int.toNat i) (ET.dft .node)).key, (⟨#[]⟩ : ByteArray), ((h4.set ((0) + Int.toNat i) (⟨(6 : Int), (h4.getD ((0) + Int.toNat i) (ET.dft .node)).key, (h4.getD ((0) + Int.toNat i) (ET.dft .node)).text, (h4.getD ((0) + Int.toNat i) (ET.dft .node)).whole, (h4.getD ((0) + Int.toNat i) (ET.dft .node)).int, (h4.getD ((0) + Int.toNat i) (ET.dft .node)).kids⟩ : Eng.Node)).getD ((0) + Int.toNat i) (ET.dft .node)).whole, ((h4.set ((0) + Int.toNat i) (⟨(6 : Int), (h4.getD ((0) + Int.toNat i) (ET.dft .node)).key, (h4.getD ((0) + Int.toNat i) (ET.dft .node)).text, (h4.getD ((0) + Int.toNat i) (ET.dft .node)).whole, (h4.getD ((0) + Int.toNat i) (ET.dft .node)).int, (h4.getD ((0) + Int.toNat i) (ET.dft .node)).kids⟩ : Eng.Node)).getD ((0) + Int.toNat i) (ET.dft .node)).int, ((h4.set ((0) + Int.toNat i) (⟨(6 : Int), (h4.getD ((0) + Int.toNat i) (ET.dft .node)).key, (h4.getD ((0) + Int.toNat i) (ET.dft .node)).text, (h4.getD ((0) + Int.toNat i) (ET.dft .node)).whole, (h4.getD ((0) + Int.toNat i) (ET.dft .node)).int, (h4.getD ((0) + Int.toNat i) (ET.dft .node)).kids⟩ : Eng.Node)).getD ((0) + Int.toNat i) (ET.dft .node)).kids⟩ : Eng.Node)).set ((0) + Int.toNat i) (⟨(((h4.set ((0) + Int.toNat i) (⟨(6 : Int), (h4.getD ((0) + Int.toNat i) (ET.dft .node)).key, (h4.getD ((0) + Int.toNat i) (ET.dft .node)).text, (h4.getD ((0) + Int.toNat i) (ET.dft .node)).whole, (h4.getD ((0) + Int.toNat i) (ET.dft .node)).int, (h4.getD ((0) + Int.toNat i) (ET.dft .node)).kids⟩ : Eng.Node)).set ((0) + Int.toNat i) (⟨((h4.set ((0) + Int.toNat i) (⟨(6 : Int), (h4.getD ((0) + Int.toNat i) (ET.dft .node)).key, (h4.getD ((0) + Int.toNat i) (ET.dft .node)).text, (h4.getD ((0) + Int.toNat i) (ET.dft .node)).whole, (h4.getD ((0) + Int.toNat i) (ET.dft .node)).int, (h4.getD ((0) + Int.toNat i) (ET.dft .node)).kids⟩ : Eng.Node)).getD ((0) + Int.toNat i) (ET.dft .node)).kind, ((h4.set ((0) + Int.toNat i) (⟨(6 : Int), (h4.getD ((0) + Int.toNat i) (ET.dft .node)).key, (h4.getD ((0) + Int.toNat i) (ET.dft .node)).text, (h4.getD ((0) + Int.toNat i) (ET.dft .node)).whole, (h4.getD ((0) + Int.toNat i) (ET.dft .node)).int, (h4.getD ((0) + Int.toNat i) (ET.dft .node)).kids⟩ : Eng.Node)).getD ((0) + Int.toNat i) (ET.dft .node)).key, (⟨#[]⟩ : ByteArray), ((h4.set ((0) + Int.toNat i) (⟨(6 : Int), (h4.getD ((0) + Int.toNat i) (ET.dft .node)).key, (h4.getD ((0) + Int.toNat i) (ET.dft .node)).text, (h4.getD ((0) + Int.toNat i) (ET.dft .node)).whole, (h4.getD ((0) + Int.toNat i) (ET.dft .node)).int, (h4.getD ((0) + Int.toNat i) (ET.dft .node)).kids⟩ : Eng.Node)).getD ((0) + Int.toNat i) (ET.dft .node)).whole, ((h4.set ((0) + Int.toNat i) (⟨(6 : Int), (h4.getD ((0) + Int.toNat i) (ET.dft .node)).key, (h4.getD ((0) + Int.toNat i) (ET.dft .node)).text, (h4.getD ((0) + Int.toNat i) (ET.dft .node)).whole, (h4.getD ((0) + Int.toNat i) (ET.dft .node)).int, (h4.getD ((0) + Int.toNat i) (ET.dft .node)).kids⟩ : Eng.Node)).getD ((0) + Int.toNat i) (ET.dft .node)).int, ((h4.set ((0) + Int.toNat i) (⟨(6 : Int), (h4.getD ((0) + Int.toNat i) (ET.dft .node)).key, (h4.getD ((0) + Int.toNat i) (ET.dft .node)).text, (h4.getD ((0) + Int.toNat i) (ET.dft .node)).whole, (h4.getD ((0) + Int.toNat i) (ET.dft .node)).int, (h4.getD ((0) + Int.toNat i) (ET.dft .node)).kids⟩ : Eng.Node)).getD ((0) + Int.toNat i) (ET.dft .node)).kids⟩ : Eng.Node)).getD ((0) + Int.toNat i) (ET.dft .node)).kind, (((h4.set ((0) + Int.toNat i) (⟨(6 : Int), (h4.getD ((0) + Int.toNat i) (ET.dft .node)).key, (h4.getD ((0) + Int.toNat i) (ET.dft .node)).text, (h4.getD ((0) + Int.toNat i) (ET.dft .node)).whole, (h4.getD ((0) + Int.toNat i) (ET.dft .node)).int, (h4.getD ((0) + Int.toNat i) (ET.dft .node)).kids⟩ : Eng.Node)).set ((0) + Int.toNat i) (⟨((h4.set ((0) + Int.toNat i) (⟨(6 : Int), (h4.getD ((0) + Int.toNat i) (ET.dft .node)).key, (h4.getD ((0) + Int.toNat i) (ET.dft .node)).text, (h4.getD ((0) + Int.toNat i) (ET.dft .node)).whole, (h4.getD ((0) + Int.toNat i) (ET.dft .node)).int, (h4.getD ((0) + Int.toNat i) (ET.dft .node)).kids⟩ : Eng.Node)).getD ((0) + Int.toNat i) (ET.dft .node)).kind, ((h4.set ((0) + Int.toNat i) (⟨(6 : Int), (h4.getD ((0) + Int.toNat i) (ET.dft .node)).key, (h4.getD ((0) + Int.toNat i) (ET.dft .node)).text, (h4.getD ((0) + Int.toNat i) (ET.dft .node)).whole, (h4.getD ((0) + Int.toNat i) (ET.dft .node)).int, (h4.getD ((0) + Int.toNat i) (ET.dft .node)).kids⟩ : Eng.Node)).getD ((0) + Int.toNat i) (ET.dft .node)).key, (⟨#[]⟩ : ByteArray), ((h4.set ((0) + Int.toNat i) (⟨(6 : Int), (h4.getD ((0) + Int.toNat i) (ET.dft .node)).key, (h4.getD ((0) + Int.toNat i) (ET.dft .node)).text, (h4.getD ((0) + Int.toNat i) (ET.dft .node)).whole, (h4.getD ((0) + Int.toNat i) (ET.dft .node)).int, (h4.getD ((0) + Int.toNat i) (ET.dft .node)).kids⟩ : Eng.Node)).getD ((0) + Int.toNat i) (ET.dft .node)).whole, ((h4.set ((0) + Int.toNat i) (⟨(6 : Int), (h4.getD ((0) + Int.toNat i) (ET.dft .node)).key, (h4.getD ((0) + Int.toNat i) (ET.dft .node)).text, (h4.getD ((0) + Int.toNat i) (ET.dft .node)).whole, (h4.getD ((0) + Int.toNat i) (ET.dft .node)).int, (h4.getD ((0) + Int.toNat i) (ET.dft .node)).kids⟩ : Eng.Node)).getD ((0) + Int.toNat i) (ET.dft .node)).int, ((h4.set ((0) + Int.toNat i) (⟨(6 : Int), (h4.getD ((0) + Int.toNat i) (ET.dft .node)).key, (h4.getD ((0) + Int.toNat i) (ET.dft .node)).text, (h4.getD ((0) + Int.toNat i) (ET.dft .node)).whole, (h4.getD ((0) + Int.toNat i) (ET.dft .node)).int, (h4.getD ((0) + Int.toNat i) (ET.dft .node)).kids⟩ : Eng.Node)).getD ((0) + Int.toNat i) (ET.dft .node)).kids⟩ : Eng.Node)).getD ((0) + Int.toNat i) (ET.dft .node)).key, (((h4.set ((0) + Int.toNat i) (⟨(6 : Int), (h4.getD ((0) + Int.toNat i) (ET.dft .node)).key, (h4.getD ((0) + Int.toNat i) (ET.dft .node)).text, (h4.getD ((0) + Int.toNat i) (ET.dft .node)).whole, (h4.getD ((0) + Int.toNat i) (ET.dft .node)).int, (h4.getD ((0) + Int.toNat i) (ET.dft .node)).kids⟩ : Eng.Node)).set ((0) + Int.toNat i) (⟨((h4.set ((0) + Int.toNat i) (⟨(6 : Int), (h4.getD ((0) + Int.toNat i) (ET.dft .node)).key, (h4.getD ((0) + Int.toNat i) (ET.dft .node)).text, (h4.getD ((0) + Int.toNat i) (ET.dft .node)).whole, (h4.getD ((0) + Int.toNat i) (ET.dft .node)).int, (h4.getD ((0) + Int.toNat i) (ET.dft .node)).kids⟩ : Eng.Node)).getD ((0) + Int.toNat i) (ET.dft .node)).kind, ((h4.set ((0) + Int.toNat i) (⟨(6 : Int), (h4.getD ((0) + Int.toNat i) (ET.dft .node)).key, (h4.getD ((0) + Int.toNat i) (ET.dft .node)).text, (h4.getD ((0) + Int.toNat i) (ET.dft .node)).whole, (h4.getD ((0) + Int.toNat i) (ET.dft .node)).int, (h4.getD ((0) + Int.toNat i) (ET.dft .node)).kids⟩ : Eng.Node)).getD ((0) + Int.toNat i) (ET.dft .node)).key, (⟨#[]⟩ : ByteArray), ((h4.set ((0) + Int.toNat i) (⟨(6 : Int), (h4.getD ((0) + Int.toNat i) (ET.dft .node)).key, (h4.getD ((0) + Int.toNat i) (ET.dft .node)).text, (h4.getD ((0) + Int.toNat i) (ET.dft .node)).whole, (h4.getD ((0) + Int.toNat i) (ET.dft .node)).int, (h4.getD ((0) + Int.toNat i) (ET.dft .node)).kids⟩ : Eng.Node)).getD ((0) + Int.toNat i) (ET.dft .node)).whole, ((h4.set ((0) + Int.toNat i) (⟨(6 : Int), (h4.getD ((0) + Int.toNat i) (ET.dft .node)).key, (h4.getD ((0) + Int.toNat i) (ET.dft .node)).text, (h4.getD ((0) + Int.toNat i) (ET.dft .node)).whole, (h4.getD ((0) + Int.toNat i) (ET.dft .node)).int, (h4.getD ((0) + Int.toNat i) (ET.dft .node)).kids⟩ : Eng.Node)).getD ((0) + Int.toNat i) (ET.dft .node)).int, ((h4.set ((0) + Int.toNat i) (⟨(6 : Int), (h4.getD ((0) + Int.toNat i) (ET.dft .node)).key, (h4.getD ((0) + Int.toNat i) (ET.dft .node)).text, (h4.getD ((0) + Int.toNat i) (ET.dft .node)).whole, (h4.getD ((0) + Int.toNat i) (ET.dft .node)).int, (h4.getD ((0) + Int.toNat i) (ET.dft .node)).kids⟩ : Eng.Node)).getD ((0) + Int.toNat i) (ET.dft .node)).kids⟩ : Eng.Node)).getD ((0) + Int.toNat i) (ET.dft .node)).text, false, (((h4.set ((0) + Int.toNat i) (⟨(6 : Int), (h4.getD ((0) + Int.toNat i) (ET.dft .node)).key, (h4.getD ((0) + Int.toNat i) (ET.dft .node)).text, (h4.getD ((0) + Int.toNat i) (ET.dft .node)).whole, (h4.getD ((0) + Int.toNat i) (ET.dft .node)).int, (h4.getD ((0) + Int.toNat i) (ET.dft .node)).kids⟩ : Eng.Node)).set ((0) + Int.toNat i) (⟨((h4.set ((0) + Int.toNat i) (⟨(6 : Int), (h4.getD ((0) + Int.toNat i) (ET.dft .node)).key, (h4.getD ((0) + Int.toNat i) (ET.dft .node)).text, (h4.getD ((0) + Int.toNat i) (ET.dft .node)).whole, (h4.getD ((0) + Int.toNat i) (ET.dft .node)).int, (h4.getD ((0) + Int.toNat i) (ET.dft .node)).kids⟩ : Eng.Node)).getD ((0) + Int.toNat i) (ET.dft .node)).kind, ((h4.set ((0) + Int.toNat i) (⟨(6 : Int), (h4.getD ((0) + Int.toNat i) (ET.dft .node)).key, (h4.getD ((0) + Int.toNat i) (ET.dft .node)).text, (h4.getD ((0) + Int.toNat i) (ET.dft .node)).whole, (h4.getD ((0) + Int.toNat i) (ET.dft .node)).int, (h4.getD ((0) + Int.toNat i) (ET.dft .node)).kids⟩ : Eng.Node)).getD ((0) + Int.toNat i) (ET.dft .node)).key, (⟨#[]⟩ : ByteArray), ((h4.set ((0) + Int.toNat i) (⟨(6 : Int), (h4.getD ((0) + Int.toNat i) (ET.dft .node)).key, (h4.getD ((0) + Int.toNat i) (ET.dft .node)).text, (h4.getD ((0) + Int.toNat i) (ET.dft .node)).whole, (h4.getD ((0) + Int.toNat i) (ET.dft .node)).int, (h4.getD ((0) + Int.toNat i) (ET.dft .node)).kids⟩ : Eng.Node)).getD ((0) + Int.toNat i) (ET.dft .node)).whole, ((h4.set ((0) + Int.toNat i) (⟨(6 : Int), (h4.getD ((0) + Int.toNat i) (ET.dft .node)).key, (h4.getD ((0) + Int.toNat i) (ET.dft .node)).text, (h4.getD ((0) + Int.toNat i) (ET.dft .node)).whole, (h4.getD ((0) + Int.toNat i) (ET.dft .node)).int, (h4.getD ((0) + Int.toNat i) (ET.dft .node)).kids⟩ : Eng.Node)).getD ((0) + Int.toNat i) (ET.dft .node)).int, ((h4.set ((0) + Int.toNat i) (⟨(6 : Int), (h4.getD ((0) + Int.toNat i) (ET.dft .node)).key, (h4.getD ((0) + Int.toNat i) (ET.dft .node)).text, (h4.getD ((0) + Int.toNat i) (ET.dft .node)).whole, (h4.getD ((0) + Int.toNat i) (ET.dft .node)).int, (h4.getD ((0) + Int.toNat i) (ET.dft .node)).kids⟩ : Eng.Node)).getD ((0) + Int.toNat i) (ET.dft .node)).kids⟩ : Eng.Node)).getD ((0) + Int.toNat i) (ET.dft .node)).int, (((h4.set ((0) + Int.toNat i) (⟨(6 : Int), (h4.getD ((0) + Int.toNat i) (ET.dft .node)).key, (h4.getD ((0) + Int.toNat i) (ET.dft .node)).text, (h4.getD ((0) + Int.toNat i) (ET.dft .node)).whole, (h4.getD ((0) + Int.toNat i) (ET.dft .node)).int, (h4.getD ((0) + Int.toNat i) (ET.dft .node)).kids⟩ : Eng.Node)).set ((0) + Int.toNat i) (⟨((h4.set ((0) + Int.toNat i) (⟨(6 : Int), (h4.getD ((0) + Int.toNat i) (ET.dft .node)).key, (h4.getD ((0) + Int.toNat i) (ET.dft .node)).text, (h4.getD ((0) + Int.toNat i) (ET.dft .node)).whole, (h4.getD ((0) + Int.toNat i) (ET.dft .node)).int, (h4.getD ((0) + Int.toNat i) (ET.dft .node)).kids⟩ : Eng.Node)).getD ((0) + Int.toNat i) (ET.dft .node)).kind, ((h4.set ((0) + Int.toNat i) (⟨(6 : Int), (h4.getD ((0) + Int.toNat i) (ET.dft .node)).key, (h4.getD ((0) + Int.toNat i) (ET.dft .node)).text, (h4.getD ((0) + Int.toNat i) (ET.dft .node)).whole, (h4.getD ((0) + Int.toNat i) (ET.dft .node)).int, (h4.getD ((0) + Int.toNat i) (ET.dft .node)).kids⟩ : Eng.Node)).getD ((0) + Int.toNat i) (ET.dft .node)).key, (⟨#[]⟩ : ByteArray), ((h4.set ((0) + Int.toNat i) (⟨(6 : Int), (h4.getD ((0) + Int.toNat i) (ET.dft .node)).key, (h4.getD ((0) + Int.toNat i) (ET.dft .node)).text, (h4.getD ((0) + Int.toNat i) (ET.dft .node)).whole, (h4.getD ((0) + Int.toNat i) (ET.dft .node)).int, (h4.getD ((0) + Int.toNat i) (ET.dft .node)).kids⟩ : Eng.Node)).getD ((0) + Int.toNat i) (ET.dft .node)).whole, ((h4.set ((0) + Int.toNat i) (⟨(6 : Int), (h4.getD ((0) + Int.toNat i) (ET.dft .node)).key, (h4.getD ((0) + Int.toNat i) (ET.dft .node)).text, (h4.getD ((0) + Int.toNat i) (ET.dft .node)).whole, (h4.getD ((0) + Int.toNat i) (ET.dft .node)).int, (h4.getD ((0) + Int.toNat i) (ET.dft .node)).kids⟩ : Eng.Node)).getD ((0) + Int.toNat i) (ET.dft .node)).int, ((h4.set ((0) + Int.toNat i) (⟨(6 : Int), (h4.getD ((0) + Int.toNat i) (ET.dft .node)).key, (h4.getD ((0) + Int.toNat i) (ET.dft .node)).text, (h4.getD ((0) + Int.toNat i) (ET.dft .node)).whole, (h4.getD ((0) + Int.toNat i) (ET.dft .node)).int, (h4.getD ((0) + Int.toNat i) (ET.dft .node)).kids⟩ : Eng.Node)).getD ((0) + Int.toNat i) (ET.dft .node)).kids⟩ : Eng.Node)).getD ((0) + Int.toNat i) (ET.dft .node)).kids⟩ : Eng.Node)).length) <|
    gd (((0) + Int.toNat i) < (((h4.set ((0) + Int.toNat i) (⟨(6 : Int), (h4.getD ((0) + Int.toNat i) (ET.dft .node)).key, (h4.getD ((0) + Int.toNat i) (ET.dft .node)).text, (h4.getD ((0) + Int.toNat i) (ET.dft .node)).whole, (h4.getD ((0) + Int.toNat i) (ET.dft .node)).int, (h4.getD ((0) + Int.toNat i) (ET.dft .node)).kids⟩ : Eng.Node)).set ((0) + Int.toNat i) (⟨((h4.set ((0) + Int.toNat i) (⟨(6 : Int), (h4.getD ((0) + Int.toNat i) (ET.dft .node)).key, (h4.getD ((0) + Int.toNat i) (ET.dft .node)).text, (h4.getD ((0) + Int.toNat i) (ET.dft .node)).whole, (h4.getD ((0) + Int.toNat i) (ET.dft .node)).int, (h4.getD ((0) + Int.toNat i) (ET.dft .node)).kids⟩ : Eng.Node)).getD ((0) + Int.toNat i) (ET.dft .node)).kind, ((h4.set ((0) + Int.toNat i) (⟨(6 : Int), (h4.getD ((0) + Int.toNat i) (ET.dft .node)).key, (h4.getD ((0) + Int.toNat i) (ET.dft .node)).text, (h4.getD ((0) + Int.toNat i) (ET.dft .node)).whole, (h4.getD ((0) + Int.toNat i) (ET.dft .node)).int, (h4.getD ((0) + Int.toNat i) (ET.dft .node)).kids⟩ : Eng.Node)).getD ((0) + Int.toNat i) (ET.dft .node)).key, (⟨#[]⟩ : ByteArray), ((h4.set ((0) + Int.toNat i) (⟨(6 : Int), (h4.getD ((0) + Int.toNat i) (ET.dft .node)).key, (h4.getD ((0) + Int.toNat i) (ET.dft .node)).text, (h4.getD ((0) + Int.toNat i) (ET.dft .node)).whole, (h4.getD ((0) + Int.toNat i) (ET.dft .node)).int, (h4.getD ((0) + Int.toNat i) (ET.dft .node)).kids⟩ : Eng.Node)).getD ((0) + Int.toNat i) (ET.dft .node)).whole, ((h4.set ((0) + Int.toNat i) (⟨(6 : Int), (h4.getD ((0) + Int.toNat i) (ET.dft .node)).key, (h4.getD ((0) + Int.toNat i) (ET.dft .node)).text, (h4.getD ((0) + Int.toNat i) (ET.dft .node)).whole, (h4.getD ((0) + Int.toNat i) (ET.dft .node)).int, (h4.getD ((0) + Int.toNat i) (ET.dft .node)).kids⟩ : Eng.Node)).getD ((0) + Int.toNat i) (ET.dft .node)).int, ((h4.set ((0) + Int.toNat i) (⟨(6 : Int), (h4.getD ((0) + Int.toNat i) (ET.dft .node)).key, (h4.getD ((0) + Int.toNat i) (ET.dft .node)).text, (h4.getD ((0) + Int.toNat i) (ET.dft .node)).whole, (h4.getD ((0) + Int.toNat i) (ET.dft .node)).int, (h4.getD ((0) + Int.toNat i) (ET.dft .node)).kids⟩ : Eng.Node)).getD ((0) + Int.toNat i) (ET.dft .node)).kids⟩ : Eng.Node)).set ((0) + Int.toNat i) (⟨(((h4.set ((0) + Int.toNat i) (⟨(6 : Int), (h4.getD ((0) + Int.toNat i) (ET.dft .node)).key, (h4.getD ((0) + Int.toNat i) (ET.dft .node)).text, (h4.getD ((0) + Int.toNat i) (ET.dft .node)).whole, (h4.getD ((0) + Int.toNat i) (ET.dft .node)).int, (h4.getD ((0) + Int.toNat i) (ET.dft .node)).kids⟩ : Eng.Node)).set ((0) + Int.toNat i) (⟨((h4.set ((0) + Int.toNat i) (⟨(6 : Int), (h4.getD ((0) + Int.toNat i) (ET.dft .node)).key, (h4.getD ((0) + Int.toNat i) (ET.dft .node)).text, (h4.getD ((0) + Int.toNat i) (ET.dft .node)).whole, (h4.getD ((0) + Int.toNat i) (ET.dft .node)).int, (h4.getD ((0) + Int.toNat i) (ET.dft .node)).kids⟩ : Eng.Node)).getD ((0) + Int.toNat i) (ET.dft .node)).kind, ((h4.set ((0) + Int.toNat i) (⟨(6 : Int), (h4.getD ((0) + Int.toNat i) (ET.dft .node)).key, (h4.getD ((0) + Int.toNat i) (ET.dft .node)).text, (h4.getD ((0) + Int.toNat i) (ET.dft .node)).whole, (h4.getD ((0) + Int.toNat i) (ET.dft .node)).int, (h4.getD ((0) + Int.toNat i) (ET.dft .node)).kids⟩ : Eng.Node)).getD ((0) + Int.toNat i) (ET.dft .node)).key, (⟨#[]⟩ : ByteArray), ((h4.set ((0) + Int.toNat i) (⟨(6 : Int), (h4.getD ((0) + Int.toNat i) (ET.dft .node)).key, (h4.getD ((0) + Int.toNat i) (ET.dft .node)).text, (h4.getD ((0) + Int.toNat i) (ET.dft .node)).whole, (h4.getD ((0) + Int.toNat i) (ET.dft .node)).int, (h4.getD ((0) + Int.toNat i) (ET.dft .node)).kids⟩ : Eng.Node)).getD ((0) + Int.toNat i) (ET.dft .node)).whole, ((h4.set ((0) + Int.toNat i) (⟨(6 : Int), (h4.getD ((0) + Int.toNat i) (ET.dft .node)).key, (h4.getD ((0) + Int.toNat i) (ET.dft .node)).text, (h4.getD ((0) + Int.toNat i) (ET.dft .node)).whole, (h4.getD ((0) + Int.toNat i) (ET.dft .node)).int, (h4.getD ((0) + Int.toNat i) (ET.dft .node)).kids⟩ : Eng.Node)).getD ((0) + Int.toNat i) (ET.dft .node)).int, ((h4.set ((0) + Int.toNat i) (⟨(6 : Int), (h4.getD ((0) + Int.toNat i) (ET.dft .node)).key, (h4.getD ((0) + Int.toNat i) (ET.dft .node)).text, (h4.getD ((0) + Int.toNat i) (ET.dft .node)).whole, (h4.getD ((0) + Int.toNat i) (ET.dft .node)).int, (h4.getD ((0) + Int.toNat i) (ET.dft .node)).kids⟩ : Eng.Node)).getD ((0) + Int.toNat i) (ET.dft .node)).kids⟩ : Eng.Node)).getD ((0) + Int.toNat i) (ET.dft .node)).kind, (((h4.set ((0) + Int.toNat i) (⟨(6 : Int), (h4.getD ((0) + Int.toNat i) (ET.dft .node)).key, (h4.getD ((0) + Int.toNat i) (ET.dft .node)).text, (h4.getD ((0) + Int.toNat i) (ET.dft .node)).whole, (h4.getD ((0) + Int.toNat i) (ET.dft .node)).int, (h4.getD ((0) + Int.toNat i) (ET.dft .node)).kids⟩ : Eng.Node)).set ((0) + Int.toNat i) (⟨((h4.set ((0) + Int.toNat i) (⟨(6 : Int), (h4.getD ((0) + Int.toNat i) (ET.dft .node)).key, (h4.getD ((0) + Int.toNat i) (ET.dft .node)).text, (h4.getD ((0) + Int.toNat i) (ET.dft .node)).whole, (h4.getD ((0) + Int.toNat i) (ET.dft .node)).int, (h4.getD ((0) + Int.toNat i) (ET.dft .node)).kids⟩ : Eng.Node)).getD ((0) + Int.toNat i) (ET.dft .node)).kind, ((h4.set ((0) + Int.toNat i) (⟨(6 : Int), (h4.getD ((0) + Int.toNat i) (ET.dft .node)).key, (h4.getD ((0) + Int.toNat i) (ET.dft .node)).text, (h4.getD ((0) + Int.toNat i) (ET.dft .node)).whole, (h4.getD ((0) + Int.toNat i) (ET.dft .node)).int, (h4.getD ((0) + Int.toNat i) (ET.dft .node)).kids⟩ : Eng.Node)).getD ((0) + Int.toNat i) (ET.dft .node)).key, (⟨#[]⟩ : ByteArray), ((h4.set ((0) + Int.toNat i) (⟨(6 : Int), (h4.getD ((0) + Int.toNat i) (ET.dft .node)).key, (h4.getD ((0) + Int.toNat i) (ET.dft .node)).text, (h4.getD ((0) + Int.toNat i) (ET.dft .node)).whole, (h4.getD ((0) + Int.toNat i) (ET.dft .node)).int, (h4.getD ((0) + Int.toNat i) (ET.dft .node)).kids⟩ : Eng.Node)).getD ((0) + Int.toNat i) (ET.dft .node)).whole, ((h4.set ((0) + Int.toNat i) (⟨(6 : Int), (h4.getD ((0) + Int.toNat i) (ET.dft .node)).key, (h4.getD ((0) + Int.toNat i) (ET.dft .node)).text, (h4.getD ((0) + Int.toNat i) (ET.dft .node)).whole, (h4.getD ((0) + Int.toNat i) (ET.dft .node)).int, (h4.getD ((0) + Int.toNat i) (ET.dft .node)).kids⟩ : Eng.Node)).getD ((0) + Int.toNat i) (ET.dft .node)).int, ((h4.set ((0) + Int.toNat i) (⟨(6 : Int), (h4.getD ((0) + Int.toNat i) (ET.dft .node)).key, (h4.getD ((0) + Int.toNat i) (ET.dft .node)).text, (h4.getD ((0) + Int.toNat i) (ET.dft .node)).whole, (h4.getD ((0) + Int.toNat i) (ET.dft .node)).int, (h4.getD ((0) + Int.toNat i) (ET.dft .node)).kids⟩ : Eng.Node)).getD ((0) + Int.toNat i) (ET.dft .node)).kids⟩ : Eng.Node)).getD ((0) + Int.toNat i) (ET.dft .node)).key, (((h4.set ((0) + Int.toNat i) (⟨(6 : Int), (h4.getD ((0) + Int.toNat i) (ET.dft .node)).key, (h4.getD ((0) + Int.toNat i) (ET.dft .node)).text, (h4.getD ((0) + Int.toNat i) (ET.dft .node)).whole, (h4.getD ((0) + Int.toNat i) (ET.dft .node)).int, (h4.getD ((0) + Int.toNat i) (ET.dft .node)).kids⟩ : Eng.Node)).set ((0) + Int.toNat i) (⟨((h4.set ((0) + Int.toNat i) (⟨(6 : Int), (h4.getD ((0) + Int.toNat i) (ET.dft .node)).key, (h4.getD ((0) + Int.toNat i) (ET.dft .node)).text, (h4.getD ((0) + Int.toNat i) (ET.dft .node)).whole, (h4.getD ((0) + Int.toNat i) (ET.dft .node)).int, (h4.getD ((0) + Int.toNat i) (ET.dft .node)).kids⟩ : Eng.Node)).getD ((0) + Int.toNat i) (ET.dft .node)).kind, ((h4.set ((0) + Int.toNat i) (⟨(6 : Int), (h4.getD ((0) + Int.toNat i) (ET.dft .node)).key, (h4.getD ((0) + Int.toNat i) (ET.dft .node)).text, (h4.getD ((0) + Int.toNat i) (ET.dft .node)).whole, (h4.getD ((0) + Int.toNat i) (ET.dft .node)).int, (h4.getD ((0) + Int.toNat i) (ET.dft .node)).kids⟩ : Eng.Node)).getD ((0) + Int.toNat i) (ET.dft .node)).key, (⟨#[]⟩ : ByteArray), ((h4.set ((0) + Int.toNat i) (⟨(6 : Int), (h4.getD ((0) + Int.toNat i) (ET.dft .node)).key, (h4.getD ((0) + Int.toNat i) (ET.dft .node)).text, (h4.getD ((0) + Int.toNat i) (ET.dft .node)).whole, (h4.getD ((0) + Int.toNat i) (ET.dft .node)).int, (h4.getD ((0) + Int.toNat i) (ET.dft .node)).kids⟩ : Eng.Node)).getD ((0) + Int.toNat i) (ET.dft .node)).whole, ((h4.set ((0) + Int.toNat i) (⟨(6 : Int), (h4.getD ((0) + Int.toNat i) (ET.dft .node)).key, (h4.getD ((0) + Int.toNat i) (ET.dft .node)).text, (h4.getD ((0) + Int.toNat i) (ET.dft .node)).whole, (h4.getD ((0) + Int.toNat i) (ET.dft .node)).int, (h4.getD ((0) + Int.toNat i) (ET.dft .node)).kids⟩ : Eng.Node)).getD ((0) + Int.toNat i) (ET.dft .node)).int, ((h4.set ((0) + Int.toNat i) (⟨(6 : Int), (h4.getD ((0) + Int.toNat i) (ET.dft .node)).key, (h4.getD ((0) + Int.toNat i) (ET.dft .node)).text, (h4.getD ((0) + Int.toNat i) (ET.dft .node)).whole, (h4.getD ((0) + Int.toNat i) (ET.dft .node)).int, (h4.getD ((0) + Int.toNat i) (ET.dft .node)).kids⟩ : Eng.Node)).getD ((0) + Int.toNat i) (ET.dft .node)).kids⟩ : Eng.Node)).getD ((0) + Int.toNat i) (ET.dft .node)).text, false, (((h4.set ((0) + Int.toNat i) (⟨(6 : Int), (h4.getD ((0) + Int.toNat i) (ET.dft .node)).key, (h4.getD ((0) + Int.toNat i) (ET.dft .node)).text, (h4.getD ((0) + Int.toNat i) (ET.dft .node)).whole, (h4.getD ((0) + Int.toNat i) (ET.dft .node)).int, (h4.getD ((0) + Int.toNat i) (ET.dft .node)).kids⟩ : Eng.Node)).set ((0) + Int.toNat i) (⟨((h4.set ((0) + Int.toNat i) (⟨(6 : Int), (h4.getD ((0) + Int.toNat i) (ET.dft .node)).key, (h4.getD ((0) + Int.toNat i) (ET.dft .node)).text, (h4.getD ((0) + Int.toNat i) (ET.dft .node)).whole, (h4.getD ((0) + Int.toNat i) (ET.dft .node)).int, (h4.getD ((0) + Int.toNat i) (ET.dft .node)).kids⟩ : Eng.Node)).getD ((0) + Int.toNat i) (ET.dft .node)).kind, ((h4.set ((0) + Int.toNat i) (⟨(6 : Int), (h4.getD ((0) + Int.toNat i) (ET.dft .node)).key, (h4.getD ((0) + Int.toNat i) (ET.dft .node)).text, (h4.getD ((0) + Int.toNat i) (ET.dft .node)).whole, (h4.getD ((0) + Int.toNat i) (ET.dft .node)).int, (h4.getD ((0) + Int.toNat i) (ET.dft .node)).kids⟩ : Eng.Node)).getD ((0) + Int.toNat i) (ET.dft .node)).key, (⟨#[]⟩ : ByteArray), ((h4.set ((0) + Int.toNat i) (⟨(6 : Int), (h4.getD ((0) + Int.toNat i) (ET.dft .node)).key, (h4.getD ((0) + Int.toNat i) (ET.dft .node)).text, (h4.getD ((0) + Int.toNat i) (ET.dft .node)).whole, (h4.getD ((0) + Int.toNat i) (ET.dft .node)).int, (h4.getD ((0) + Int.toNat i) (ET.dft .node)).kids⟩ : Eng.Node)).getD ((0) + Int.toNat i) (ET.dft .node)).whole, ((h4.set ((0) + Int.toNat i) (⟨(6 : Int), (h4.getD ((0) + Int.toNat i) (ET.dft .node)).key, (h4.getD ((0) + Int.toNat i) (ET.dft .node)).text, (h4.getD ((0) + Int.toNat i) (ET.dft .node)).whole, (h4.getD ((0) + Int.toNat i) (ET.dft .node)).int, (h4.getD ((0) + Int.toNat i) (ET.dft .node)).kids⟩ : Eng.Node)).getD ((0) + Int.toNat i) (ET.dft .node)).int, ((h4.set ((0) + Int.toNat i) (⟨(6 : Int), (h4.getD ((0) + Int.toNat i) (ET.dft .node)).key, (h4.getD ((0) + Int.toNat i) (ET.dft .node)).text, (h4.getD ((0) + Int.toNat i) (ET.dft .node)).whole, (h4.getD ((0) + Int.toNat i) (ET.dft .node)).int, (h4.getD ((0) + Int.toNat i) (ET.dft .node)).kids⟩ : Eng.Node)).getD ((0) + Int.toNat i) (ET.dft .node)).kids⟩ : Eng.Node)).getD ((0) + Int.toNat i) (ET.dft .node)).int, (((h4.set ((0) + Int.toNat i) (⟨(6 : Int), (h4.getD ((0) + Int.toNat i) (ET.dft .node)).key, (h4.getD ((0) + Int.toNat i) (ET.dft .node)).text, (h4.getD ((0) + Int.toNat i) (ET.dft .node)).whole, (h4.getD ((0) + Int.toNat i) (ET.dft .node)).int, (h4.getD ((0) + Int.toNat i) (ET.dft .node)).kids⟩ : Eng.Node)).set ((0) + Int.toNat i) (⟨((h4.set ((0) + Int.toNat i) (⟨(6 : Int), (h4.getD ((0) + Int.toNat i) (ET.dft .node)).key, (h4.getD ((0) + Int.toNat i) (ET.dft .node)).text, (h4.getD ((0) + Int.toNat i) (ET.dft .node)).whole, (h4.getD ((0) + Int.toNat i) (ET.dft .node)).int, (h4.getD ((0) + Int.toNat i) (ET.dft .node)).kids⟩ : Eng.Node)).getD ((0) + Int.toNat i) (ET.dft .node)).kind, ((h4.set ((0) + Int.toNat i) (⟨(6 : Int), (h4.getD ((0) + Int.toNat i) (ET.dft .node)).key, (h4.getD ((0) + Int.toNat i) (ET.dft .node)).text, (h4.getD ((0) + Int.toNat i) (ET.dft .node)).whole, (h4.getD ((0) + Int.toNat i) (ET.dft .node)).int, (h4.getD ((0) + Int.toNat i) (ET.dft .node)).kids⟩ : Eng.Node)).getD ((0) + Int.toNat i) (ET.dft .node)).key, (⟨#[]⟩ : ByteArray), ((h4.set ((0) + Int.toNat i) (⟨(6 : Int), (h4.getD ((0) + Int.toNat i) (ET.dft .node)).key, (h4.getD ((0) + Int.toNat i) (ET.dft .node)).text, (h4.getD ((0) + Int.toNat i) (ET.dft .node)).whole, (h4.getD ((0) + Int.toNat i) (ET.dft .node)).int, (h4.getD ((0) + Int.toNat i) (ET.dft .node)).kids⟩ : Eng.Node)).getD ((0) + Int.toNat i) (ET.dft .node)).whole, ((h4.set ((0) + Int.toNat i) (⟨(6 : Int), (h4.getD ((0) + Int.toNat i) (ET.dft .node)).key, (h4.getD ((0) + Int.toNat i) (ET.dft .node)).text, (h4.getD ((0) + Int.toNat i) (ET.dft .node)).whole, (h4.getD ((0) + Int.toNat i) (ET.dft .node)).int, (h4.getD ((0) + Int.toNat i) (ET.dft .node)).kids⟩ : Eng.Node)).getD ((0) + Int.toNat i) (ET.dft .node)).int, ((h4.set ((0) + Int.toNat i) (⟨(6 : Int), (h4.getD ((0) + Int.toNat i) (ET.dft .node)).key, (h4.getD ((0) + Int.toNat i) (ET.dft .node)).text, (h4.getD ((0) + Int.toNat i) (ET.dft .node)).whole, (h4.getD ((0) + Int.toNat i) (ET.dft .node)).int, (h4.getD ((0) + Int.toNat i) (ET.dft .node)).kids⟩ : Eng.Node)).getD ((0) + Int.toNat i) (ET.dft .node)).kids⟩ : Eng.Node)).getD ((0) + Int.toNat i) (ET.dft .node)).kids⟩ : Eng.Node)).length) <|
    some ((((h4.set ((0) + Int.toNat i) (⟨(6 : Int), (h4.getD ((0) + Int.toNat i) (ET.dft .node)).key, (h4.getD ((0) + Int.toNat i) (ET.dft .node)).text, (h4.getD ((0) + Int.toNat i) (ET.dft .node)).whole, (h4.getD ((0) + Int.toNat i) (ET.dft .node)).int, (h4.getD ((0) + Int.toNat i) (ET.dft .node)).kids⟩ : Eng.Node)).set ((0) + Int.toNat i) (⟨((h4.set ((0) + Int.toNat i) (⟨(6 : Int), (h4.getD ((0) + Int.toNat i) (ET.dft .node)).key, (h4.getD ((0) + Int.toNat i) (ET.dft .node)).text, (h4.getD ((0) + Int.toNat i) (ET.dft .node)).whole, (h4.getD ((0) + Int.toNat i) (ET.dft .node)).int, (h4.getD ((0) + Int.toNat i) (ET.dft .node)).kids⟩ : Eng.Node)).getD ((0) + Int.toNat i) (ET.dft .node)).kind, ((h4.set ((0) + Int.toNat i) (⟨(6 : Int), (h4.getD ((0) + Int.toNat i) (ET.dft .node)).key, (h4.getD ((0) + Int.toNat i) (ET.dft .node)).text, (h4.getD ((0) + Int.toNat i) (ET.dft .node)).whole, (h4.getD ((0) + Int.toNat i) (ET.dft .node)).int, (h4.getD ((0) + Int.toNat i) (ET.dft .node)).kids⟩ : Eng.Node)).getD ((0) + Int.toNat i) (ET.dft .node)).key, (⟨#[]⟩ : ByteArray), ((h4.set ((0) + Int.toNat i) (⟨(6 : Int), (h4.getD ((0) + Int.toNat i) (ET.dft .node)).key, (h4.getD ((0) + Int.toNat i) (ET.dft .node)).text, (h4.getD ((0) + Int.toNat i) (ET.dft .node)).whole, (h4.getD ((0) + Int.toNat i) (ET.dft .node)).int, (h4.getD ((0) + Int.toNat i) (ET.dft .node)).kids⟩ : Eng.Node)).getD ((0) + Int.toNat i) (ET.dft .node)).whole, ((h4.set ((0) + Int.toNat i) (⟨(6 : Int), (h4.getD ((0) + Int.toNat i) (ET.dft .node)).key, (h4.getD ((0) + Int.toNat i) (ET.dft .node)).text, (h4.getD ((0) + Int.toNat i) (ET.dft .node)).whole, (h4.getD ((0) + Int.toNat i) (ET.dft .node)).int, (h4.getD ((0) + Int.toNat i) (ET.dft .node)).kids⟩ : Eng.Node)).getD ((0) + Int.toNat i) (ET.dft .node)).int, ((h4.set ((0) + Int.toNat i) (⟨(6 : Int), (h4.getD ((0) + Int.toNat i) (ET.dft .node)).key, (h4.getD ((0) + Int.toNat i) (ET.dft .node)).text, (h4.getD ((0) + Int.toNat i) (ET.dft .node)).whole, (h4.getD ((0) + Int.toNat i) (ET.dft .node)).int, (h4.getD ((0) + Int.toNat i) (ET.dft .node)).kids⟩ : Eng.Node)).getD ((0) + Int.toNat i) (ET.dft .node)).kids⟩ : Eng.Node)).set ((0) + Int.toNat i) (⟨(((h4.set ((0) + Int.toNat i) (⟨(6 : Int), (h4.getD ((0) + Int.toNat i) (ET.dft .node)).key, (h4.getD ((0) + Int.toNat i) (ET.dft .node)).text, (h4.getD ((0) + Int.toNat i) (ET.dft .node)).whole, (h4.getD ((0) + Int.toNat i) (ET.dft .node)).int, (h4.getD ((0) + Int.toNat i) (ET.dft .node)).kids⟩ : Eng.Node)).set ((0) + Int.toNat i) (⟨((h4.set ((0) + Int.toNat i) (⟨(6 : Int), (h4.getD ((0) + Int.toNat i) (ET.dft .node)).key, (h4.getD ((0) + Int.toNat i) (ET.dft .node)).text, (h4.getD ((0) + Int.toNat i) (ET.dft .node)).whole, (h4.getD ((0) + Int.toNat i) (ET.dft .node)).int, (h4.getD ((0) + Int.toNat i) (ET.dft .node)).kids⟩ : Eng.Node)).getD ((0) + Int.toNat i) (ET.dft .node)).kind, ((h4.set ((0) + Int.toNat i) (⟨(6 : Int), (h4.getD ((0) + Int.toNat i) (ET.dft .node)).key, (h4.getD ((0) + Int.toNat i) (ET.dft .node)).text, (h4.getD ((0) + Int.toNat i) (ET.dft .node)).whole, (h4.getD ((0) + Int.toNat i) (ET.dft .node)).int, (h4.getD ((0) + Int.toNat i) (ET.dft .node)).kids⟩ : Eng.Node)).getD ((0) + Int.toNat i) (ET.dft .node)).key, (⟨#[]⟩ : ByteArray), ((h4.set ((0) + Int.toNat i) (⟨(6 : Int), (h4.getD ((0) + Int.toNat i) (ET.dft .node)).key, (h4.getD ((0) + Int.toNat i) (ET.dft .node)).text, (h4.getD ((0) + Int.toNat i) (ET.dft .node)).whole, (h4.getD ((0) + Int.toNat i) (ET.dft .node)).int, (h4.getD ((0) + Int.toNat i) (ET.dft .node)).kids⟩ : Eng.Node)).getD ((0) + Int.toNat i) (ET.dft .node)).whole, ((h4.set ((0) + Int.toNat i) (⟨(6 : Int), (h4.getD ((0) + Int.toNat i) (ET.dft .node)).key, (h4.getD ((0) + Int.toNat i) (ET.dft .node)).text, (h4.getD ((0) + Int.toNat i) (ET.dft .node)).whole, (h4.getD ((0) + Int.toNat i) (ET.dft .node)).int, (h4.getD ((0) + Int.toNat i) (ET.dft .node)).kids⟩ : Eng.Node)).getD ((0) + Int.toNat i) (ET.dft .node)).int, ((h4.set ((0) + Int.toNat i) (⟨(6 : Int), (h4.getD ((0) + Int.toNat i) (ET.dft .node)).key, (h4.getD ((0) + Int.toNat i) (ET.dft .node)).text, (h4.getD ((0) + Int.toNat i) (ET.dft .node)).whole, (h4.getD ((0) + Int.toNat i) (ET.dft .node)).int, (h4.getD ((0) + Int.toNat i) (ET.dft .node)).kids⟩ : Eng.Node)).getD ((0) + Int.toNat i) (ET.dft .node)).kids⟩ : Eng.Node)).getD ((0) + Int.toNat i) (ET.dft .node)).kind, (((h4.set ((0) + Int.toNat i) (⟨(6 : Int), (h4.getD ((0) + Int.toNat i) (ET.dft .node)).key, (h4.getD ((0) + Int.toNat i) (ET.dft .node)).text, (h4.getD ((0) + Int.toNat i) (ET.dft .node)).whole, (h4.getD ((0) + Int.toNat i) (ET.dft .node)).int, (h4.getD ((0) + Int.toNat i) (ET.dft .node)).kids⟩ : Eng.Node)).set ((0) + Int.toNat i) (⟨((h4.set ((0) + Int.toNat i) (⟨(6 : Int), (h4.getD ((0) + Int.toNat i) (ET.dft .node)).key, (h4.getD ((0) + Int.toNat i) (ET.dft .node)).text, (h4.getD ((0) + Int.toNat i) (ET.dft .node)).whole, (h4.getD ((0) + Int.toNat i) (ET.dft .node)).int, (h4.getD ((0) + Int.toNat i) (ET.dft .node)).kids⟩ : Eng.Node)).getD ((0) + Int.toNat i) (ET.dft .node)).kind, ((h4.set ((0) + Int.toNat i) (⟨(6 : Int), (h4.getD ((0) + Int.toNat i) (ET.dft .node)).key, (h4.getD ((0) + Int.toNat i) (ET.dft .node)).text, (h4.getD ((0) + Int.toNat i) (ET.dft .node)).whole, (h4.getD ((0) + Int.toNat i) (ET.dft .node)).int, (h4.getD ((0) + Int.toNat i) (ET.dft .node)).kids⟩ : Eng.Node)).getD ((0) + Int.toNat i) (ET.dft .node)).key, (⟨#[]⟩ : ByteArray), ((h4.set ((0) + Int.toNat i) (⟨(6 : Int), (h4.getD ((0) + Int.toNat i) (ET.dft .node)).key, (h4.getD ((0) + Int.toNat i) (ET.dft .node)).text, (h4.getD ((0) + Int.toNat i) (ET.dft .node)).whole, (h4.getD ((0) + Int.toNat i) (ET.dft .node)).int, (h4.getD ((0) + Int.toNat i) (ET.dft .node)).kids⟩ : Eng.Node)).getD ((0) + Int.toNat i) (ET.dft .node)).whole, ((h4.set ((0) + Int.toNat i) (⟨(6 : Int), (h4.getD ((0) + Int.toNat i) (ET.dft .node)).key, (h4.getD ((0) + Int.toNat i) (ET.dft .node)).text, (h4.getD ((0) + Int.toNat i) (ET.dft .node)).whole, (h4.getD ((0) + Int.toNat i) (ET.dft .node)).int, (h4.getD ((0) + Int.toNat i) (ET.dft .node)).kids⟩ : Eng.Node)).getD ((0) + Int.toNat i) (ET.dft .node)).int, ((h4.set ((0) + Int.toNat i) (⟨(6 : Int), (h4.getD ((0) + Int.toNat i) (ET.dft .node)).key, (h4.getD ((0) + Int.toNat i) (ET.dft .node)).text, (h4.getD ((0) + Int.toNat i) (ET.dft .node)).whole, (h4.getD ((0) + Int.toNat i) (ET.dft .node)).int, (h4.getD ((0) + Int.toNat i) (ET.dft .node)).kids⟩ : Eng.Node)).getD ((0) + Int.toNat i) (ET.dft .node)).kids⟩ : Eng.Node)).getD ((0) + Int.toNat i) (ET.dft .node)).key, (((h4.set ((0) + Int.toNat i) (⟨(6 : Int), (h4.getD ((0) + Int.toNat i) (ET.dft .node)).key, (h4.getD ((0) + Int.toNat i) (ET.dft .node)).text, (h4.getD ((0) + Int.toNat i) (ET.dft .node)).whole, (h4.getD ((0) + Int.toNat i) (ET.dft .node)).int, (h4.getD ((0) + Int.toNat i) (ET.dft .node)).kids⟩ : Eng.Node)).set ((0) + Int.toNat i) (⟨((h4.set ((0) + Int.toNat i) (⟨(6 : Int), (h4.getD ((0) + Int.toNat i) (ET.dft .node)).key, (h4.getD ((0) + Int.toNat i) (ET.dft .node)).text, (h4.getD ((0) + Int.toNat i) (ET.dft .node)).whole, (h4.getD ((0) + Int.toNat i) (ET.dft .node)).int, (h4.getD ((0) + Int.toNat i) (ET.dft .node)).kids⟩ : Eng.Node)).getD ((0) + Int.toNat i) (ET.dft .node)).kind, ((h4.set ((0) + Int.toNat i) (⟨(6 : Int), (h4.getD ((0) + Int.toNat i) (ET.dft .node)).key, (h4.getD ((0) + Int.toNat i) (ET.dft .node)).text, (h4.getD ((0) + Int.toNat i) (ET.dft .node)).whole, (h4.getD ((0) + Int.toNat i) (ET.dft .node)).int, (h4.getD ((0) + Int.toNat i) (ET.dft .node)).kids⟩ : Eng.Node)).getD ((0) + Int.toNat i) (ET.dft .node)).key, (⟨#[]⟩ : ByteArray), ((h4.set ((0) + Int.toNat i) (⟨(6 : Int), (h4.getD ((0) + Int.toNat i) (ET.dft .node)).key, (h4.getD ((0) + Int.toNat i) (ET.dft .node)).text, (h4.getD ((0) + Int.toNat i) (ET.dft .node)).whole, (h4.getD ((0) + Int.toNat i) (ET.dft .node)).int, (h4.getD ((0) + Int.toNat i) (ET.dft .node)).kids⟩ : Eng.Node)).getD ((0) + Int.toNat i) (ET.dft .node)).whole, ((h4.set ((0) + Int.toNat i) (⟨(6 : Int), (h4.getD ((0) + Int.toNat i) (ET.dft .node)).key, (h4.getD ((0) + Int.toNat i) (ET.dft .node)).text, (h4.getD ((0) + Int.toNat i) (ET.dft .node)).whole, (h4.getD ((0) + Int.toNat i) (ET.dft .node)).int, (h4.getD ((0) + Int.toNat i) (ET.dft .node)).kids⟩ : Eng.Node)).getD ((0) + Int.toNat i) (ET.dft .node)).int, ((h4.set ((0) + Int.toNat i) (⟨(6 : Int), (h4.getD ((0) + Int.toNat i) (ET.dft .node)).key, (h4.getD ((0) + Int.toNat i) (ET.dft .node)).text, (h4.getD ((0) + Int.toNat i) (ET.dft .node)).whole, (h4.getD ((0) + Int.toNat i) (ET.dft .node)).int, (h4.getD ((0) + Int.toNat i) (ET.dft .node)).kids⟩ : Eng.Node)).getD ((0) + Int.toNat i) (ET.dft .node)).kids⟩ : Eng.Node)).getD ((0) + Int.toNat i) (ET.dft .node)).text, false, (((h4.set ((0) + Int.toNat i) (⟨(6 : Int), (h4.getD ((0) + Int.toNat i) (ET.dft .node)).key, (h4.getD ((0) + Int.toNat i) (ET.dft .node)).text, (h4.getD ((0) + Int.toNat i) (ET.dft .node)).whole, (h4.getD ((0) + Int.toNat i) (ET.dft .node)).int, (h4.getD ((0) + Int.toNat i) (ET.dft .node)).kids⟩ : Eng.Node)).set ((0) + Int.toNat i) (⟨((h4.set ((0) + Int.toNat i) (⟨(6 : Int), (h4.getD ((0) + Int.toNat i) (ET.dft .node)).key, (h4.getD ((0) + Int.toNat i) (ET.dft .node)).text, (h4.getD ((0) + Int.toNat i) (ET.dft .node)).whole, (h4.getD ((0) + Int.toNat i) (ET.dft .node)).int, (h4.getD ((0) + Int.toNat i) (ET.dft .node)).kids⟩ : Eng.Node)).getD ((0) + Int.toNat i) (ET.dft .node)).kind, ((h4.set ((0) + Int.toNat i) (⟨(6 : Int), (h4.getD ((0) + Int.toNat i) (ET.dft .node)).key, (h4.getD ((0) + Int.toNat i) (ET.dft .node)).text, (h4.getD ((0) + Int.toNat i) (ET.dft .node)).whole, (h4.getD ((0) + Int.toNat i) (ET.dft .node)).int, (h4.getD ((0) + Int.toNat i) (ET.dft .node)).kids⟩ : Eng.Node)).getD ((0) + Int.toNat i) (ET.dft .node)).key, (⟨#[]⟩ : ByteArray), ((h4.set ((0) + Int.toNat i) (⟨(6 : Int), (h4.getD ((0) + Int.toNat i) (ET.dft .node)).key, (h4.getD ((0) + Int.toNat i) (ET.dft .node)).text, (h4.getD ((0) + Int.toNat i) (ET.dft .node)).whole, (h4.getD ((0) + Int.toNat i) (ET.dft .node)).int, (h4.getD ((0) + Int.toNat i) (ET.dft .node)).kids⟩ : Eng.Node)).getD ((0) + Int.toNat i) (ET.dft .node)).whole, ((h4.set ((0) + Int.toNat i) (⟨(6 : Int), (h4.getD ((0) + Int.toNat i) (ET.dft .node)).key, (h4.getD ((0) + Int.toNat i) (ET.dft .node)).text, (h4.getD ((0) + Int.toNat i) (ET.dft .node)).whole, (h4.getD ((0) + Int.toNat i) (ET.dft .node)).int, (h4.getD ((0) + Int.toNat i) (ET.dft .node)).kids⟩ : Eng.Node)).getD ((0) + Int.toNat i) (ET.dft .node)).int, ((h4.set ((0) + Int.toNat i) (⟨(6 : Int), (h4.getD ((0) + Int.toNat i) (ET.dft .node)).key, (h4.getD ((0) + Int.toNat i) (ET.dft .node)).text, (h4.getD ((0) + Int.toNat i) (ET.dft .node)).whole, (h4.getD ((0) + Int.toNat i) (ET.dft .node)).int, (h4.getD ((0) + Int.toNat i) (ET.dft .node)).kids⟩ : Eng.Node)).getD ((0) + Int.toNat i) (ET.dft .node)).kids⟩ : Eng.Node)).getD ((0) + Int.toNat i) (ET.dft .node)).int, (((h4.set ((0) + Int.toNat i) (⟨(6 : Int), (h4.getD ((0) + Int.toNat i) (ET.dft .node)).key, (h4.getD ((0) + Int.toNat i) (ET.dft .node)).text, (h4.getD ((0) + Int.toNat i) (ET.dft .node)).whole, (h4.getD ((0) + Int.toNat i) (ET.dft .node)).int, (h4.getD ((0) + Int.toNat i) (ET.dft .node)).kids⟩ : Eng.Node)).set ((0) + Int.toNat i) (⟨((h4.set ((0) + Int.toNat i) (⟨(6 : Int), (h4.getD ((0) + Int.toNat i) (ET.dft .node)).key, (h4.getD ((0) + Int.toNat i) (ET.dft .node)).text, (h4.getD ((0) + Int.toNat i) (ET.dft .node)).whole, (h4.getD ((0) + Int.toNat i) (ET.dft .node)).int, (h4.getD ((0) + Int.toNat i) (ET.dft .node)).kids⟩ : Eng.Node)).getD ((0) + Int.toNat i) (ET.dft .node)).kind, ((h4.set ((0) + Int.toNat i) (⟨(6 : Int), (h4.getD ((0) + Int.toNat i) (ET.dft .node)).key, (h4.getD ((0) + Int.toNat i) (ET.dft .node)).text, (h4.getD ((0) + Int.toNat i) (ET.dft .node)).whole, (h4.getD ((0) + Int.toNat i) (ET.dft .node)).int, (h4.getD ((0) + Int.toNat i) (ET.dft .node)).kids⟩ : Eng.Node)).getD ((0) + Int.toNat i) (ET.dft .node)).key, (⟨#[]⟩ : ByteArray), ((h4.set ((0) + Int.toNat i) (⟨(6 : Int), (h4.getD ((0) + Int.toNat i) (ET.dft .node)).key, (h4.getD ((0) + Int.toNat i) (ET.dft .node)).text, (h4.getD ((0) + Int.toNat i) (ET.dft .node)).whole, (h4.getD ((0) + Int.toNat i) (ET.dft .node)).int, (h4.getD ((0) + Int.toNat i) (ET.dft .node)).kids⟩ : Eng.Node)).getD ((0) + Int.toNat i) (ET.dft .node)).whole, ((h4.set ((0) + Int.toNat i) (⟨(6 : Int), (h4.getD ((0) + Int.toNat i) (ET.dft .node)).key, (h4.getD ((0) + Int.toNat i) (ET.dft .node)).text, (h4.getD ((0) + Int.toNat i) (ET.dft .node)).whole, (h4.getD ((0) + Int.toNat i) (ET.dft .node)).int, (h4.getD ((0) + Int.toNat i) (ET.dft .node)).kids⟩ : Eng.Node)).getD ((0) + Int.toNat i) (ET.dft .node)).int, ((h4.set ((0) + Int.toNat i) (⟨(6 : Int), (h4.getD ((0) + Int.toNat i) (ET.dft .node)).key, (h4.getD ((0) + Int.toNat i) (ET.dft .node)).text, (h4.getD ((0) + Int.toNat i) (ET.dft .node)).whole, (h4.getD ((0) + Int.toNat i) (ET.dft .node)).int, (h4.getD ((0) + Int.toNat i) (ET.dft .node)).kids⟩ : Eng.Node)).getD ((0) + Int.toNat i) (ET.dft .node)).kids⟩ : Eng.Node)).getD ((0) + Int.toNat i) (ET.dft .node)).kids⟩ : Eng.Node)).set ((0) + Int.toNat i) (⟨((((h4.set ((0) + Int.toNat i) (⟨(6 : Int), (h4.getD ((0) + Int.toNat i) (ET.dft .node)).key, (h4.getD ((0) + Int.toNat i) (ET.dft .node)).text, (h4.getD ((0) + Int.toNat i) (ET.dft .node)).whole, (h4.getD ((0) + Int.toNat i) (ET.dft .node)).int, (h4.getD ((0) + Int.toNat i) (ET.dft .node)).kids⟩ : Eng.Node)).set ((0) + Int.toNat i) (⟨((h4.set ((0) + Int.toNat i) (⟨(6 : Int), (h4.getD ((0) + Int.toNat i) (ET.dft .node)).key, (h4.getD ((0) + Int.toNat i) (ET.dft .node)).text, (h4.getD ((0) + Int.toNat i) (ET.dft .node)).whole, (h4.getD ((0) + Int.toNat i) (ET.dft .node)).int, (h4.getD ((0) + Int.toNat i) (ET.dft .node)).kids⟩ : Eng.Node)).getD ((0) + Int.toNat i) (ET.dft .node)).kind, ((h4.set ((0) + Int.toNat i) (⟨(6 : Int), (h4.getD ((0) + Int.toNat i) (ET.dft .node)).key, (h4.getD ((0) + Int.toNat i) (ET.dft .node)).text, (h4.getD ((0) + Int.toNat i) (ET.dft .node)).whole, (h4.getD ((0) + Int.toNat i) (ET.dft .node)).int, (h4.getD ((0) + Int.toNat i) (ET.dft .node)).kids⟩ : Eng.Node)).getD ((0) + Int.toNat i) (ET.dft .node)).key, (⟨#[]⟩ : ByteArray), ((h4.set ((0) + Int.toNat i) (⟨(6 : Int), (h4.getD ((0) + Int.toNat i) (ET.dft .node)).key, (h4.getD ((0) + Int.toNat i) (ET.dft .node)).text, (h4.getD ((0) + Int.toNat i) (ET.dft .node)).whole, (h4.getD ((0) + Int.toNat i) (ET.dft .node)).int, (h4.getD ((0) + Int.toNat i) (ET.dft .node)).kids⟩ : Eng.Node)).getD ((0) + Int.toNat i) (ET.dft .node)).whole, ((h4.set ((0) + Int.toNat i) (⟨(6 : Int), (h4.getD ((0) + Int.toNat i) (ET.dft .node)).key, (h4.getD ((0) + Int.toNat i) (ET.dft .node)).text, (h4.getD ((0) + Int.toNat i) (ET.dft .node)).whole, (h4.getD ((0) + Int.toNat i) (ET.dft .node)).int, (h4.getD ((0) + Int.toNat i) (ET.dft .node)).kids⟩ : Eng.Node)).getD ((0) + Int.toNat i) (ET.dft .node)).int, ((h4.set ((0) + Int.toNat i) (⟨(6 : Int), (h4.getD ((0) + Int.toNat i) (ET.dft .node)).key, (h4.getD ((0) + Int.toNat i) (ET.dft .node)).text, (h4.getD ((0) + Int.toNat i) (ET.dft .node)).whole, (h4.getD ((0) + Int.toNat i) (ET.dft .node)).int, (h4.getD ((0) + Int.toNat i) (ET.dft .node)).kids⟩ : Eng.Node)).getD ((0) + Int.toNat i) (ET.dft .node)).kids⟩ : Eng.Node)).set ((0) + Int.toNat i) (⟨(((h4.set ((0) + Int.toNat i) (⟨(6 : Int), (h4.getD ((0) + Int.toNat i) (ET.dft .node)).key, (h4.getD ((0) + Int.toNat i) (ET.dft .node)).text, (h4.getD ((0) + Int.toNat i) (ET.dft .node)).whole, (h4.getD ((0) + Int.toNat i) (ET.dft .node)).int, (h4.getD ((0) + Int.toNat i) (ET.dft .node)).kids⟩ : Eng.Node)).set ((0) + Int.toNat i) (⟨((h4.set ((0) + Int.toNat i) (⟨(6 : Int), (h4.getD ((0) + Int.toNat i) (ET.dft .node)).key, (h4.getD ((0) + Int.toNat i) (ET.dft .node)).text, (h4.getD ((0) + Int.toNat i) (ET.dft .node)).whole, (h4.getD ((0) + Int.toNat i) (ET.dft .node)).int, (h4.getD ((0) + Int.toNat i) (ET.dft .node)).kids⟩ : Eng.Node)).getD ((0) + Int.toNat i) (ET.dft .node)).kind, ((h4.set ((0) + Int.toNat i) (⟨(6 : Int), (h4.getD ((0) + Int.toNat i) (ET.dft .node)).key, (h4.getD ((0) + Int.toNat i) (ET.dft .node)).text, (h4.getD ((0) + Int.toNat i) (ET.dft .node)).whole, (h4.getD ((0) + Int.toNat i) (ET.dft .node)).int, (h4.getD ((0) + Int.toNat i) (ET.dft .node)).kids⟩ : Eng.Node)).getD ((0) + Int.toNat i) (ET.dft .node)).key, (⟨#[]⟩ : ByteArray), ((h4.set ((0) + Int.toNat i) (⟨(6 : Int), (h4.getD ((0) + Int.toNat i) (ET.dft .node)).key, (h4.getD ((0) + Int.toNat i) (ET.dft .node)).text, (h4.getD ((0) + Int.toNat i) (ET.dft .node)).whole, (h4.getD ((0) + Int.toNat i) (ET.dft .node)).int, (h4.getD ((0) + Int.toNat i) (ET.dft .node)).kids⟩ : Eng.Node)).getD ((0) + Int.toNat i) (ET.dft .node)).whole, ((h4.set ((0) + Int.toNat i) (⟨(6 : Int), (h4.getD ((0) + Int.toNat i) (ET.dft .node)).key, (h4.getD ((0) + Int.toNat i) (ET.dft .node)).text, (h4.getD ((0) + Int.toNat i) (ET.dft .node)).whole, (h4.getD ((0) + Int.toNat i) (ET.dft .node)).int, (h4.getD ((0) + Int.toNat i) (ET.dft .node)).kids⟩ : Eng.Node)).getD ((0) + Int.toNat i) (ET.dft .node)).int, ((h4.set ((0) + Int.toNat i) (⟨(6 : Int), (h4.getD ((0) + Int.toNat i) (ET.dft .node)).key, (h4.getD ((0) + Int.toNat i) (ET.dft .node)).text, (h4.getD ((0) + Int.toNat i) (ET.dft .node)).whole, (h4.getD ((0) + Int.toNat i) (ET.dft .node)).int, (h4.getD ((0) + Int.toNat i) (ET.dft .node)).kids⟩ : Eng.Node)).getD ((0) + Int.toNat i) (ET.dft .node)).kids⟩ : Eng.Node)).getD ((0) + Int.toNat i) (ET.dft .node)).kind, (((h4.set ((0) + Int.toNat i) (⟨(6 : Int), (h4.getD ((0) + Int.toNat i) (ET.dft .node)).key, (h4.getD ((0) + Int.toNat i) (ET.dft .node)).text, (h4.getD ((0) + Int.toNat i) (ET.dft .node)).whole, (h4.getD ((0) + Int.toNat i) (ET.dft .node)).int, (h4.getD ((0) + Int.toNat i) (ET.dft .node)).kids⟩ : Eng.Node)).set ((0) + Int.toNat i) (⟨((h4.set ((0) + Int.toNat i) (⟨(6 : Int), (h4.getD ((0) + Int.toNat i) (ET.dft .node)).key, (h4.getD ((0) + Int.toNat i) (ET.dft .node)).text, (h4.getD ((0) + Int.toNat i) (ET.dft .node)).whole, (h4.getD ((0) + Int.toNat i) (ET.dft .node)).int, (h4.getD ((0) + Int.toNat i) (ET.dft .node)).kids⟩ : Eng.Node)).getD ((0) + Int.toNat i) (ET.dft .node)).kind, ((h4.set ((0) + Int.toNat i) (⟨(6 : Int), (h4.getD ((0) + Int.toNat i) (ET.dft .node)).key, (h4.getD ((0) + Int.toNat i) (ET.dft .node)).text, (h4.getD ((0) + Int.toNat i) (ET.dft .node)).whole, (h4.getD ((0) + Int.toNat i) (ET.dft .node)).int, (h4.getD ((0) + Int.toNat i) (ET.dft .node)).kids⟩ : Eng.Node)).getD ((0) + Int.toNat i) (ET.dft .node)).key, (⟨#[]⟩ : ByteArray), ((h4.set ((0) + Int.toNat i) (⟨(6 : Int), (h4.getD ((0) + Int.toNat i) (ET.dft .node)).key, (h4.getD ((0) + Int.toNat i) (ET.dft .node)).text, (h4.getD ((0) + Int.toNat i) (ET.dft .node)).whole, (h4.getD ((0) + Int.toNat i) (ET.dft .node)).int, (h4.getD ((0) + Int.toNat i) (ET.dft .node)).kids⟩ : Eng.Node)).getD ((0) + Int.toNat i) (ET.dft .node)).whole, ((h4.set ((0) + Int.toNat i) (⟨(6 : Int), (h4.getD ((0) + Int.toNat i) (ET.dft .node)).key, (h4.getD ((0) + Int.toNat i) (ET.dft .node)).text, (h4.getD ((0) + Int.toNat i) (ET.dft .node)).whole, (h4.getD ((0) + Int.toNat i) (ET.dft .node)).int, (h4.getD ((0) + Int.toNat i) (ET.dft .node)).kids⟩ : Eng.Node)).getD ((0) + Int.toNat i) (ET.dft .node)).int, ((h4.set ((0) + Int.toNat i) (⟨(6 : Int), (h4.getD ((0) + Int.toNat i) (ET.dft .node)).key, (h4.getD ((0) + Int.toNat i) (ET.dft .node)).text, (h4.getD ((0) + Int.toNat i) (ET.dft .node)).whole, (h4.getD ((0) + Int.toNat i) (ET.dft .node)).int, (h4.getD ((0) + Int.toNat i) (ET.dft .node)).kids⟩ : Eng.Node)).getD ((0) + Int.toNat i) (ET.dft .node)).kids⟩ : Eng.Node)).getD ((0) + Int.toNat i) (ET.dft .node)).key, (((h4.set ((0) + Int.toNat i) (⟨(6 : Int), (h4.getD ((0) + Int.toNat i) (ET.dft .node)).key, (h4.getD ((0) + Int.toNat i) (ET.dft .node)).text, (h4.getD ((0) + Int.toNat i) (ET.dft .node)).whole, (h4.getD ((0) + Int.toNat i) (ET.dft .node)).int, (h4.getD ((0) + Int.toNat i) (ET.dft .node)).kids⟩ : Eng.Node)).set ((0) + Int.toNat i) (⟨((h4.set ((0) + Int.toNat i) (⟨(6 : Int), (h4.getD ((0) + Int.toNat i) (ET.dft .node)).key, (h4.getD ((0) + Int.toNat i) (ET.dft .node)).text, (h4.getD ((0) + Int.toNat i) (ET.dft .node)).whole, (h4.getD ((0) + Int.toNat i) (ET.dft .node)).int, (h4.getD ((0) + Int.toNat i) (ET.dft .node)).kids⟩ : Eng.Node)).getD ((0) + Int.toNat i) (ET.dft .node)).kind, ((h4.set ((0) + Int.toNat i) (⟨(6 : Int), (h4.getD ((0) + Int.toNat i) (ET.dft .node)).key, (h4.getD ((0) + Int.toNat i) (ET.dft .node)).text, (h4.getD ((0) + Int.toNat i) (ET.dft .node)).whole, (h4.getD ((0) + Int.toNat i) (ET.dft .node)).int, (h4.getD ((0) + Int.toNat i) (ET.dft .node)).kids⟩ : Eng.Node)).getD ((0) + Int.toNat i) (ET.dft .node)).key, (⟨#[]⟩ : ByteArray), ((h4.set ((0) + Int.toNat i) (⟨(6 : Int), (h4.getD ((0) + Int.toNat i) (ET.dft .node)).key, (h4.getD ((0) + Int.toNat i) (ET.dft .node)).text, (h4.getD ((0) + Int.toNat i) (ET.dft .node)).whole, (h4.getD ((0) + Int.toNat i) (ET.dft .node)).int, (h4.getD ((0) + Int.toNat i) (ET.dft .node)).kids⟩ : Eng.Node)).getD ((0) + Int.toNat i) (ET.dft .node)).whole, ((h4.set ((0) + Int.toNat i) (⟨(6 : Int), (h4.getD ((0) + Int.toNat i) (ET.dft .node)).key, (h4.getD ((0) + Int.toNat i) (ET.dft .node)).text, (h4.getD ((0) + Int.toNat i) (ET.dft .node)).whole, (h4.getD ((0) + Int.toNat i) (ET.dft .node)).int, (h4.getD ((0) + Int.toNat i) (ET.dft .node)).kids⟩ : Eng.Node)).getD ((0) + Int.toNat i) (ET.dft .node)).int, ((h4.set ((0) + Int.toNat i) (⟨(6 : Int), (h4.getD ((0) + Int.toNat i) (ET.dft .node)).key, (h4.getD ((0) + Int.toNat i) (ET.dft .node)).text, (h4.getD ((0) + Int.toNat i) (ET.dft .node)).whole, (h4.getD ((0) + Int.toNat i) (ET.dft .node)).int, (h4.getD ((0) + Int.toNat i) (ET.dft .node)).kids⟩ : Eng.Node)).getD ((0) + Int.toNat i) (ET.dft .node)).kids⟩ : Eng.Node)).getD ((0) + Int.toNat i) (ET.dft .node)).text, false, (((h4.set ((0) + Int.toNat i) (⟨(6 : Int), (h4.getD ((0) + Int.toNat i) (ET.dft .node)).key, (h4.getD ((0) + Int.toNat i) (ET.dft .node)).text, (h4.getD ((0) + Int.toNat i) (ET.dft .node)).whole, (h4.getD ((0) + Int.toNat i) (ET.dft .node)).int, (h4.getD ((0) + Int.toNat i) (ET.dft .node)).kids⟩ : Eng.Node)).set ((0) + Int.toNat i) (⟨((h4.set ((0) + Int.toNat i) (⟨(6 : Int), (h4.getD ((0) + Int.toNat i) (ET.dft .node)).key, (h4.getD ((0) + Int.toNat i) (ET.dft .node)).text, (h4.getD ((0) + Int.toNat i) (ET.dft .node)).whole, (h4.getD ((0) + Int.toNat i) (ET.dft .node)).int, (h4.getD ((0) + Int.toNat i) (ET.dft .node)).kids⟩ : Eng.Node)).getD ((0) + Int.toNat i) (ET.dft .node)).kind, ((h4.set ((0) + Int.toNat i) (⟨(6 : Int), (h4.getD ((0) + Int.toNat i) (ET.dft .node)).key, (h4.getD ((0) + Int.toNat i) (ET.dft .node)).text, (h4.getD ((0) + Int.toNat i) (ET.dft .node)).whole, (h4.getD ((0) + Int.toNat i) (ET.dft .node)).int, (h4.getD ((0) + Int.toNat i) (ET.dft .node)).kids⟩ : Eng.Node)).getD ((0) + Int.toNat i) (ET.dft .node)).key, (⟨#[]⟩ : ByteArray), ((h4.set ((0) + Int.toNat i) (⟨(6 : Int), (h4.getD ((0) + Int.toNat i) (ET.dft .node)).key, (h4.getD ((0) + Int.toNat i) (ET.dft .node)).text, (h4.getD ((0) + Int.toNat i) (ET.dft .node)).whole, (h4.getD ((0) + Int.toNat i) (ET.dft .node)).int, (h4.getD ((0) + Int.toNat i) (ET.dft .node)).kids⟩ : Eng.Node)).getD ((0) + Int.toNat i) (ET.dft .node)).whole, ((h4.set ((0) + Int.toNat i) (⟨(6 : Int), (h4.getD ((0) + Int.toNat i) (ET.dft .node)).key, (h4.getD ((0) + Int.toNat i) (ET.dft .node)).text, (h4.getD ((0) + Int.toNat i) (ET.dft .node)).whole, (h4.getD ((0) + Int.toNat i) (ET.dft .node)).int, (h4.getD ((0) + Int.toNat i) (ET.dft .node)).kids⟩ : Eng.Node)).getD ((0) + Int.toNat i) (ET.dft .node)).int, ((h4.set ((0) + Int.toNat i) (⟨(6 : Int), (h4.getD ((0) + Int.toNat i) (ET.dft .node)).key, (h4.getD ((0) + Int.toNat i) (ET.dft .node)).text, (h4.getD ((0) + Int.toNat i) (ET.dft .node)).whole, (h4.getD ((0) + Int.toNat i) (ET.dft .node)).int, (h4.getD ((0) + Int.toNat i) (ET.dft .node)).kids⟩ : Eng.Node)).getD ((0) + Int.toNat i) (ET.dft .node)).kids⟩ : Eng.Node)).getD ((0) + Int.toNat i) (ET.dft .node)).int, (((h4.set ((0) + Int.toNat i) (⟨(6 : Int), (h4.getD ((0) + Int.toNat i) (ET.dft .node)).key, (h4.getD ((0) + Int.toNat i) (ET.dft .node)).text, (h4.getD ((0) + Int.toNat i) (ET.dft .node)).whole, (h4.getD ((0) + Int.toNat i) (ET.dft .node)).int, (h4.getD ((0) + Int.toNat i) (ET.dft .node)).kids⟩ : Eng.Node)).set ((0) + Int.toNat i) (⟨((h4.set ((0) + Int.toNat i) (⟨(6 : Int), (h4.getD ((0) + Int.toNat i) (ET.dft .node)).key, (h4.getD ((0) + Int.toNat i) (ET.dft .node)).text, (h4.getD ((0) + Int.toNat i) (ET.dft .node)).whole, (h4.getD ((0) + Int.toNat i) (ET.dft .node)).int, (h4.getD ((0) + Int.toNat i) (ET.dft .node)).kids⟩ : Eng.Node)).getD ((0) + Int.toNat i) (ET.dft .node)).kind, ((h4.set ((0) + Int.toNat i) (⟨(6 : Int), (h4.getD ((0) + Int.toNat i) (ET.dft .node)).key, (h4.getD ((0) + Int.toNat i) (ET.dft .node)).text, (h4.getD ((0) + Int.toNat i) (ET.dft .node)).whole, (h4.getD ((0) + Int.toNat i) (ET.dft .node)).int, (h4.getD ((0) + Int.toNat i) (ET.dft .node)).kids⟩ : Eng.Node)).getD ((0) + Int.toNat i) (ET.dft .node)).key, (⟨#[]⟩ : ByteArray), ((h4.set ((0) + Int.toNat i) (⟨(6 : Int), (h4.getD ((0) + Int.toNat i) (ET.dft .node)).key, (h4.getD ((0) + Int.toNat i) (ET.dft .node)).text, (h4.getD ((0) + Int.toNat i) (ET.dft .node)).whole, (h4.getD ((0) + Int.toNat i) (ET.dft .node)).int, (h4.getD ((0) + Int.toNat i) (ET.dft .node)).kids⟩ : Eng.Node)).getD ((0) + Int.toNat i) (ET.dft .node)).whole, ((h4.set ((0) + Int.toNat i) (⟨(6 : Int), (h4.getD ((0) + Int.toNat i) (ET.dft .node)).key, (h4.getD ((0) + Int.toNat i) (ET.dft .node)).text, (h4.getD ((0) + Int.toNat i) (ET.dft .node)).whole, (h4.getD ((0) + Int.toNat i) (ET.dft .node)).int, (h4.getD ((0) + Int.toNat i) (ET.dft .node)).kids⟩ : Eng.Node)).getD ((0) + Int.toNat i) (ET.dft .node)).int, ((h4.set ((0) + Int.toNat i) (⟨(6 : Int), (h4.getD ((0) + Int.toNat i) (ET.dft .node)).key, (h4.getD ((0) + Int.toNat i) (ET.dft .node)).text, (h4.getD ((0) + Int.toNat i) (ET.dft .node)).whole, (h4.getD ((0) + Int.toNat i) (ET.dft .node)).int, (h4.getD ((0) + Int.toNat i) (ET.dft .node)).kids⟩ : Eng.Node)).getD ((0) + Int.toNat i) (ET.dft .node)).kids⟩ : Eng.Node)).getD ((0) + Int.toNat i) (ET.dft .node)).kids⟩ : Eng.Node)).getD ((0) + Int.toNat i) (ET.dft .node)).kind, ((((h4.set ((0) + Int.toNat i) (⟨(6 : Int), (h4.getD ((0) + Int.toNat i) (ET.dft .node)).key, (h4.getD ((0) + Int.toNat i) (ET.dft .node)).text, (h4.getD ((0) + Int.toNat i) (ET.dft .node)).whole, (h4.getD ((0) + Int.toNat i) (ET.dft .node)).int, (h4.getD ((0) + Int.toNat i) (ET.dft .node)).kids⟩ : Eng.Node)).set ((0) + Int.toNat i) (⟨((h4.set ((0) + Int.toNat i) (⟨(6 : Int), (h4.getD ((0) + Int.toNat i) (ET.dft .node)).key, (h4.getD ((0) + Int.toNat i) (ET.dft .node)).text, (h4.getD ((0) + Int.toNat i) (ET.dft .node)).whole, (h4.getD ((0) + Int.toNat i) (ET.dft .node)).int, (h4.getD ((0) + Int.toNat i) (ET.dft .node)).kids⟩ : Eng.Node)).getD ((0) + Int.toNat i) (ET.dft .node)).kind, ((h4.set ((0) + Int.toNat i) (⟨(6 : Int), (h4.getD ((0) + Int.toNat i) (ET.dft .node)).key, (h4.getD ((0) + Int.toNat i) (ET.dft .node)).text, (h4.getD ((0) + Int.toNat i) (ET.dft .node)).whole, (h4.getD ((0) + Int.toNat i) (ET.dft .node)).int, (h4.getD ((0) + Int.toNat i) (ET.dft .node)).kids⟩ : Eng.Node)).getD ((0) + Int.toNat i) (ET.dft .node)).key, (⟨#[]⟩ : ByteArray), ((h4.set ((0) + Int.toNat i) (⟨(6 : Int), (h4.getD ((0) + Int.toNat i) (ET.dft .node)).key, (h4.getD ((0) + Int.toNat i) (ET.dft .node)).text, (h4.getD ((0) + Int.toNat i) (ET.dft .node)).whole, (h4.getD ((0) + Int.toNat i) (ET.dft .node)).int, (h4.getD ((0) + Int.toNat i) (ET.dft .node)).kids⟩ : Eng.Node)).getD ((0) + Int.toNat i) (ET.dft .node)).whole, ((h4.set ((0) + Int.toNat i) (⟨(6 : Int), (h4.getD ((0) + Int.toNat i) (ET.dft .node)).key, (h4.getD ((0) + Int.toNat i) (ET.dft .node)).text, (h4.getD ((0) + Int.toNat i) (ET.dft .node)).whole, (h4.getD ((0) + Int.toNat i) (ET.dft .node)).int, (h4.getD ((0) + Int.toNat i) (ET.dft .node)).kids⟩ : Eng.Node)).getD ((0) + Int.toNat i) (ET.dft .node)).int, ((h4.set ((0) + Int.toNat i) (⟨(6 : Int), (h4.getD ((0) + Int.toNat i) (ET.dft .node)).key, (h4.getD ((0) + Int.toNat i) (ET.dft .node)).text, (h4.getD ((0) + Int.toNat i) (ET.dft .node)).whole, (h4.getD ((0) + Int.toNat i) (ET.dft .node)).int, (h4.getD ((0) + Int.toNat i) (ET.dft .node)).kids⟩ : Eng.Node)).getD ((0) + Int.toNat i) (ET.dft .node)).kids⟩ : Eng.Node)).set ((0) + Int.toNat i) (⟨(((h4.set ((0) + Int.toNat i) (⟨(6 : Int), (h4.getD ((0) + Int.toNat i) (ET.dft .node)).key, (h4.getD ((0) + Int.toNat i) (ET.dft .node)).text, (h4.getD ((0) + Int.toNat i) (ET.dft .node)).whole, (h4.getD ((0) + Int.toNat i) (ET.dft .node)).int, (h4.getD ((0) + Int.toNat i) (ET.dft .node)).kids⟩ : Eng.Node)).set ((0) + Int.toNat i) (⟨((h4.set ((0) + Int.toNat i) (⟨(6 : Int), (h4.getD ((0) + Int.toNat i) (ET.dft .node)).key, (h4.getD ((0) + Int.toNat i) (ET.dft .node)).text, (h4.getD ((0) + Int.toNat i) (ET.dft .node)).whole, (h4.getD ((0) + Int.toNat i) (ET.dft .node)).int, (h4.getD ((0) + Int.toNat i) (ET.dft .node)).kids⟩ : Eng.Node)).getD ((0) + Int.toNat i) (ET.dft .node)).kind, ((h4.set ((0) + Int.toNat i) (⟨(6 : Int), (h4.getD ((0) + Int.toNat i) (ET.dft .node)).key, (h4.getD ((0) + Int.toNat i) (ET.dft .node)).text, (h4.getD ((0) + Int.toNat i) (ET.dft .node)).whole, (h4.getD ((0) + Int.toNat i) (ET.dft .node)).int, (h4.getD ((0) + Int.toNat i) (ET.dft .node)).kids⟩ : Eng.Node)).getD ((0) + Int.toNat i) (ET.dft .node)).key, (⟨#[]⟩ : ByteArray), ((h4.set ((0) + Int.toNat i) (⟨(6 : Int), (h4.getD ((0) + Int.toNat i) (ET.dft .node)).key, (h4.getD ((0) + Int.toNat i) (ET.dft .node)).text, (h4.getD ((0) + Int.toNat i) (ET.dft .node)).whole, (h4.getD ((0) + Int.toNat i) (ET.dft .node)).int, (h4.getD ((0) + Int.toNat i) (ET.dft .node)).kids⟩ : Eng.Node)).getD ((0) + Int.toNat i) (ET.dft .node)).whole, ((h4.set ((0) + Int.toNat i) (⟨(6 : Int), (h4.getD ((0) + Int.toNat i) (ET.dft .node)).key, (h4.getD ((0) + Int.toNat i) (ET.dft .node)).text, (h4.getD ((0) + Int.toNat i) (ET.dft .node)).whole, (h4.getD ((0) + Int.toNat i) (ET.dft .node)).int, (h4.getD ((0) + Int.toNat i) (ET.dft .node)).kids⟩ : Eng.Node)).getD ((0) + Int.toNat i) (ET.dft .node)).int, ((h4.set ((0) + Int.toNat i) (⟨(6 : Int), (h4.getD ((0) + Int.toNat i) (ET.dft .node)).key, (h4.getD ((0) + Int.toNat i) (ET.dft .node)).text, (h4.getD ((0) + Int.toNat i) (ET.dft .node)).whole, (h4.getD ((0) + Int.toNat i) (ET.dft .node)).int, (h4.getD ((0) + Int.toNat i) (ET.dft .node)).kids⟩ : Eng.Node)).getD ((0) + Int.toNat i) (ET.dft .node)).kids⟩ : Eng.Node)).getD ((0) + Int.toNat i) (ET.dft .node)).kind, (((h4.set ((0) + Int.toNat i) (⟨(6 : Int), (h4.getD ((0) + Int.toNat i) (ET.dft .node)).key, (h4.getD ((0) + Int.toNat i) (ET.dft .node)).text, (h4.getD ((0) + Int.toNat i) (ET.dft .node)).whole, (h4.getD ((0) + Int.toNat i) (ET.dft .node)).int, (h4.getD ((0) + Int.toNat i) (ET.dft .node)).kids⟩ : Eng.Node)).set ((0) + Int.toNat i) (⟨((h4.set ((0) + Int.toNat i) (⟨(6 : Int), (h4.getD ((0) + Int.toNat i) (ET.dft .node)).key, (h4.getD ((0) + Int.toNat i) (ET.dft .node)).text, (h4.getD ((0) + Int.toNat i) (ET.dft .node)).whole, (h4.getD ((0) + Int.toNat i) (ET.dft .node)).int, (h4.getD ((0) + Int.toNat i) (ET.dft .node)).kids⟩ : Eng.Node)).getD ((0) + Int.toNat i) (ET.dft .node)).kind, ((h4.set ((0) + Int.toNat i) (⟨(6 : Int), (h4.getD ((0) + Int.toNat i) (ET.dft .node)).key, (h4.getD ((0) + Int.toNat i) (ET.dft .node)).text, (h4.getD ((0) + Int.toNat i) (ET.dft .node)).whole, (h4.getD ((0) + Int.toNat i) (ET.dft .node)).int, (h4.getD ((0) + Int.toNat i) (ET.dft .node)).kids⟩ : Eng.Node)).getD ((0) + Int.toNat i) (ET.dft .node)).key, (⟨#[]⟩ : ByteArray), ((h4.set ((0) + Int.toNat i) (⟨(6 : Int), (h4.getD ((0) + Int.toNat i) (ET.dft .node)).key, (h4.getD ((0) + Int.toNat i) (ET.dft .node)).text, (h4.getD ((0) + Int.toNat i) (ET.dft .node)).whole, (h4.getD ((0) + Int.toNat i) (ET.dft .node)).int, (h4.getD ((0) + Int.toNat i) (ET.dft .node)).kids⟩ : Eng.Node)).getD ((0) + Int.toNat i) (ET.dft .node)).whole, ((h4.set ((0) + Int.toNat i) (⟨(6 : Int), (h4.getD ((0) + Int.toNat i) (ET.dft .node)).key, (h4.getD ((0) + Int.toNat i) (ET.dft .node)).text, (h4.getD ((0) + Int.toNat i) (ET.dft .node)).whole, (h4.getD ((0) + Int.toNat i) (ET.dft .node)).int, (h4.getD ((0) + Int.toNat i) (ET.dft .node)).kids⟩ : Eng.Node)).getD ((0) + Int.toNat i) (ET.dft .node)).int, ((h4.set ((0) + Int.toNat i) (⟨(6 : Int), (h4.getD ((0) + Int.toNat i) (ET.dft .node)).key, (h4.getD ((0) + Int.toNat i) (ET.dft .node)).text, (h4.getD ((0) + Int.toNat i) (ET.dft .node)).whole, (h4.getD ((0) + Int.toNat i) (ET.dft .node)).int, (h4.getD ((0) + Int.toNat i) (ET.dft .node)).kids⟩ : Eng.Node)).getD ((0) + Int.toNat i) (ET.dft .node)).kids⟩ : Eng.Node)).getD ((0) + Int.toNat i) (ET.dft .node)).key, (((h4.set ((0) + Int.toNat i) (⟨(6 : Int), (h4.getD ((0) + Int.toNat i) (ET.dft .node)).key, (h4.getD ((0) + Int.toNat i) (ET.dft .node)).text, (h4.getD ((0) + Int.toNat i) (ET.dft .node)).whole, (h4.getD ((0) + Int.toNat i) (ET.dft .node)).int, (h4.getD ((0) + Int.toNat i) (ET.dft .node)).kids⟩ : Eng.Node)).set ((0) + Int.toNat i) (⟨((h4.set ((0) + Int.toNat i) (⟨(6 : Int), (h4.getD ((0) + Int.toNat i) (ET.dft .node)).key, (h4.getD ((0) + Int.toNat i) (ET.dft .node)).text, (h4.getD ((0) + Int.toNat i) (ET.dft .node)).whole, (h4.getD ((0) + Int.toNat i) (ET.dft .node)).int, (h4.getD ((0) + Int.toNat i) (ET.dft .node)).kids⟩ : Eng.Node)).getD ((0) + Int.toNat i) (ET.dft .node)).kind, ((h4.set ((0) + Int.toNat i) (⟨(6 : Int), (h4.getD ((0) + Int.toNat i) (ET.dft .node)).key, (h4.getD ((0) + Int.toNat i) (ET.dft .node)).text, (h4.getD ((0) + Int.toNat i) (ET.dft .node)).whole, (h4.getD ((0) + Int.toNat i) (ET.dft .node)).int, (h4.getD ((0) + Int.toNat i) (ET.dft .node)).kids⟩ : Eng.Node)).getD ((0) + Int.toNat i) (ET.dft .node)).key, (⟨#[]⟩ : ByteArray), ((h4.set ((0) + Int.toNat i) (⟨(6 : Int), (h4.getD ((0) + Int.toNat i) (ET.dft .node)).key, (h4.getD ((0) + Int.toNat i) (ET.dft .node)).text, (h4.getD ((0) + Int.toNat i) (ET.dft .node)).whole, (h4.getD ((0) + Int.toNat i) (ET.dft .node)).int, (h4.getD ((0) + Int.toNat i) (ET.dft .node)).kids⟩ : Eng.Node)).getD ((0) + Int.toNat i) (ET.dft .node)).whole, ((h4.set ((0) + Int.toNat i) (⟨(6 : Int), (h4.getD ((0) + Int.toNat i) (ET.dft .node)).key, (h4.getD ((0) + Int.toNat i) (ET.dft .node)).text, (h4.getD ((0) + Int.toNat i) (ET.dft .node)).whole, (h4.getD ((0) + Int.toNat i) (ET.dft .node)).int, (h4.getD ((0) + Int.toNat i) (ET.dft .node)).kids⟩ : Eng.Node)).getD ((0) + Int.toNat i) (ET.dft .node)).int, ((h4.set ((0) + Int.toNat i) (⟨(6 : Int), (h4.getD ((0) + Int.toNat i) (ET.dft .node)).key, (h4.getD ((0) + Int.toNat i) (ET.dft .node)).text, (h4.getD ((0) + Int.toNat i) (ET.dft .node)).whole, (h4.getD ((0) + Int.toNat i) (ET.dft .node)).int, (h4.getD ((0) + Int.toNat i) (ET.dft .node)).kids⟩ : Eng.Node)).getD ((0) + Int.toNat i) (ET.dft .node)).kids⟩ : Eng.Node)).getD ((0) + Int.toNat i) (ET.dft .node)).text, false, (((h4.set ((0) + Int.toNat i) (⟨(6 : Int), (h4.getD ((0) + Int.toNat i) (ET.dft .node)).key, (h4.getD ((0) + Int.toNat i) (ET.dft .node)).text, (h4.getD ((0) + Int.toNat i) (ET.dft .node)).whole, (h4.getD ((0) + Int.toNat i) (ET.dft .node)).int, (h4.getD ((0) + Int.toNat i) (ET.dft .node)).kids⟩ : Eng.Node)).set ((0) + Int.toNat i) (⟨((h4.set ((0) + Int.toNat i) (⟨(6 : Int), (h4.getD ((0) + Int.toNat i) (ET.dft .node)).key, (h4.getD ((0) + Int.toNat i) (ET.dft .node)).text, (h4.getD ((0) + Int.toNat i) (ET.dft .node)).whole, (h4.getD ((0) + Int.toNat i) (ET.dft .node)).int, (h4.getD ((0) + Int.toNat i) (ET.dft .node)).kids⟩ : Eng.Node)).getD ((0) + Int.toNat i) (ET.dft .node)).kind, ((h4.set ((0) + Int.toNat i) (⟨(6 : Int), (h4.getD ((0) + Int.toNat i) (ET.dft .node)).key, (h4.getD ((0) + Int.toNat i) (ET.dft .node)).text, (h4.getD ((0) + Int.toNat i) (ET.dft .node)).whole, (h4.getD ((0) + Int.toNat i) (ET.dft .node)).int, (h4.getD ((0) + Int.toNat i) (ET.dft .node)).kids⟩ : Eng.Node)).getD ((0) + Int.toNat i) (ET.dft .node)).key, (⟨#[]⟩ : ByteArray), ((h4.set ((0) + Int.toNat i) (⟨(6 : Int), (h4.getD ((0) + Int.toNat i) (ET.dft .node)).key, (h4.getD ((0) + Int.toNat i) (ET.dft .node)).text, (h4.getD ((0) + Int.toNat i) (ET.dft .node)).whole, (h4.getD ((0) + Int.toNat i) (ET.dft .node)).int, (h4.getD ((0) + Int.toNat i) (ET.dft .node)).kids⟩ : Eng.Node)).getD ((0) + Int.toNat i) (ET.dft .node)).whole, ((h4.set ((0) + Int.toNat i) (⟨(6 : Int), (h4.getD ((0) + Int.toNat i) (ET.dft .node)).key, (h4.getD ((0) + Int.toNat i) (ET.dft .node)).text, (h4.getD ((0) + Int.toNat i) (ET.dft .node)).whole, (h4.getD ((0) + Int.toNat i) (ET.dft .node)).int, (h4.getD ((0) + Int.toNat i) (ET.dft .node)).kids⟩ : Eng.Node)).getD ((0) + Int.toNat i) (ET.dft .node)).int, ((h4.set ((0) + Int.toNat i) (⟨(6 : Int), (h4.getD ((0) + Int.toNat i) (ET.dft .node)).key, (h4.getD ((0) + Int.toNat i) (ET.dft .node)).text, (h4.getD ((0) + Int.toNat i) (ET.dft .node)).whole, (h4.getD ((0) + Int.toNat i) (ET.dft .node)).int, (h4.getD ((0) + Int.toNat i) (ET.dft .node)).kids⟩ : Eng.Node)).getD ((0) + Int.toNat i) (ET.dft .node)).kids⟩ : Eng.Node)).getD ((0) + Int.toNat i) (ET.dft .node)).int, (((h4.set ((0) + Int.toNat i) (⟨(6 : Int), (h4.getD ((0) + Int.toNat i) (ET.dft .node)).key, (h4.getD ((0) + Int.toNat i) (ET.dft .node)).text, (h4.getD ((0) + Int.toNat i) (ET.dft .node)).whole, (h4.getD ((0) + Int.toNat i) (ET.dft .node)).int, (h4.getD ((0) + Int.toNat i) (ET.dft .node)).kids⟩ : Eng.Node)).set ((0) + Int.toNat i) (⟨((h4.set ((0) + Int.toNat i) (⟨(6 : Int), (h4.getD ((0) + Int.toNat i) (ET.dft .node)).key, (h4.getD ((0) + Int.toNat i) (ET.dft .node)).text, (h4.getD ((0) + Int.toNat i) (ET.dft .node)).whole, (h4.getD ((0) + Int.toNat i) (ET.dft .node)).int, (h4.getD ((0) + Int.toNat i) (ET.dft .node)).kids⟩ : Eng.Node)).getD ((0) + Int.toNat i) (ET.dft .node)).kind, ((h4.set ((0) + Int.toNat i) (⟨(6 : Int), (h4.getD ((0) + Int.toNat i) (ET.dft .node)).key, (h4.getD ((0) + Int.toNat i) (ET.dft .node)).text, (h4.getD ((0) + Int.toNat i) (ET.dft .node)).whole, (h4.getD ((0) + Int.toNat i) (ET.dft .node)).int, (h4.getD ((0) + Int.toNat i) (ET.dft .node)).kids⟩ : Eng.Node)).getD ((0) + Int.toNat i) (ET.dft .node)).key, (⟨#[]⟩ : ByteArray), ((h4.set ((0) + Int.toNat i) (⟨(6 : Int), (h4.getD ((0) + Int.toNat i) (ET.dft .node)).key, (h4.getD ((0) + Int.toNat i) (ET.dft .node)).text, (h4.getD ((0) + Int.toNat i) (ET.dft .node)).whole, (h4.getD ((0) + Int.toNat i) (ET.dft .node)).int, (h4.getD ((0) + Int.toNat i) (ET.dft .node)).kids⟩ : Eng.Node)).getD ((0) + Int.toNat i) (ET.dft .node)).whole, ((h4.set ((0) + Int.toNat i) (⟨(6 : Int), (h4.getD ((0) + Int.toNat i) (ET.dft .node)).key, (h4.getD ((0) + Int.toNat i) (ET.dft .node)).text, (h4.getD ((0) + Int.toNat i) (ET.dft .node)).whole, (h4.getD ((0) + Int.toNat i) (ET.dft .node)).int, (h4.getD ((0) + Int.toNat i) (ET.dft .node)).kids⟩ : Eng.Node)).getD ((0) + Int.toNat i) (ET.dft .node)).int, ((h4.set ((0) + Int.toNat i) (⟨(6 : Int), (h4.getD ((0) + Int.toNat i) (ET.dft .node)).key, (h4.getD ((0) + Int.toNat i) (ET.dft .node)).text, (h4.getD ((0) + Int.toNat i) (ET.dft .node)).whole, (h4.getD ((0) + Int.toNat i) (ET.dft .node)).int, (h4.getD ((0) + Int.toNat i) (ET.dft .node)).kids⟩ : Eng.Node)).getD ((0) + Int.toNat i) (ET.dft .node)).kids⟩ : Eng.Node)).getD ((0) + Int.toNat i) (ET.dft .node)).kids⟩ : Eng.Node)).getD ((0) + Int.toNat i) (ET.dft .node)).key, ((((h4.set ((0) + Int.toNat i) (⟨(6 : Int), (h4.getD ((0) + Int.toNat i) (ET.dft .node)).key, (h4.getD ((0) + Int.toNat i) (ET.dft .node)).text, (h4.getD ((0) + Int.toNat i) (ET.dft .node)).whole, (h4.getD ((0) + Int.toNat i) (ET.dft .node)).int, (h4.getD ((0) + Int.toNat i) (ET.dft .node)).kids⟩ : Eng.Node)).set ((0) + Int.toNat i) (⟨((h4.set ((0) + Int.toNat i) (⟨(6 : Int), (h4.getD ((0) + Int.toNat i) (ET.dft .node)).key, (h4.getD ((0) + Int.toNat i) (ET.dft .node)).text, (h4.getD ((0) + Int.toNat i) (ET.dft .node)).whole, (h4.getD ((0) + Int.toNat i) (ET.dft .node)).int, (h4.getD ((0) + Int.toNat i) (ET.dft .node)).kids⟩ : Eng.Node)).getD ((0) + Int.toNat i) (ET.dft .node)).kind, ((h4.set ((0) + Int.toNat i) (⟨(6 : Int), (h4.getD ((0) + Int.toNat i) (ET.dft .node)).key, (h4.getD ((0) + Int.toNat i) (ET.dft .node)).text, (h4.getD ((0) + Int.toNat i) (ET.dft .node)).whole, (h4.getD ((0) + Int.toNat i) (ET.dft .node)).int, (h4.getD ((0) + Int.toNat i) (ET.dft .node)).kids⟩ : Eng.Node)).getD ((0) + Int.toNat i) (ET.dft .node)).key, (⟨#[]⟩ : ByteArray), ((h4.set ((0) + Int.toNat i) (⟨(6 : Int), (h4.getD ((0) + Int.toNat i) (ET.dft .node)).key, (h4.getD ((0) + Int.toNat i) (ET.dft .node)).text, (h4.getD ((0) + Int.toNat i) (ET.dft .node)).whole, (h4.getD ((0) + Int.toNat i) (ET.dft .node)).int, (h4.getD ((0) + Int.toNat i) (ET.dft .node)).kids⟩ : Eng.Node)).getD ((0) + Int.toNat i) (ET.dft .node)).whole, ((h4.set ((0) + Int.toNat i) (⟨(6 : Int), (h4.getD ((0) + Int.toNat i) (ET.dft .node)).key, (h4.getD ((0) + Int.toNat i) (ET.dft .node)).text, (h4.getD ((0) + Int.toNat i) (ET.dft .node)).whole, (h4.getD ((0) + Int.toNat i) (ET.dft .node)).int, (h4.getD ((0) + Int.toNat i) (ET.dft .node)).kids⟩ : Eng.Node)).getD ((0) + Int.toNat i) (ET.dft .node)).int, ((h4.set ((0) + Int.toNat i) (⟨(6 : Int), (h4.getD ((0) + Int.toNat i) (ET.dft .node)).key, (h4.getD ((0) + Int.toNat i) (ET.dft .node)).text, (h4.getD ((0) + Int.toNat i) (ET.dft .node)).whole, (h4.getD ((0) + Int.toNat i) (ET.dft .node)).int, (h4.getD ((0) + Int.toNat i) (ET.dft .node)).kids⟩ : Eng.Node)).getD ((0) + Int.toNat i) (ET.dft .node)).kids⟩ : Eng.Node)).set ((0) + Int.toNat i) (⟨(((h4.set ((0) + Int.toNat i) (⟨(6 : Int), (h4.getD ((0) + Int.toNat i) (ET.dft .node)).key, (h4.getD ((0) + Int.toNat i) (ET.dft .node)).text, (h4.getD ((0) + Int.toNat i) (ET.dft .node)).whole, (h4.getD ((0) + Int.toNat i) (ET.dft .node)).int, (h4.getD ((0) + Int.toNat i) (ET.dft .node)).kids⟩ : Eng.Node)).set ((0) + Int.toNat i) (⟨((h4.set ((0) + Int.toNat i) (⟨(6 : Int), (h4.getD ((0) + Int.toNat i) (ET.dft .node)).key, (h4.getD ((0) + Int.toNat i) (ET.dft .node)).text, (h4.getD ((0) + Int.toNat i) (ET.dft .node)).whole, (h4.getD ((0) + Int.toNat i) (ET.dft .node)).int, (h4.getD ((0) + Int.toNat i) (ET.dft .node)).kids⟩ : Eng.Node)).getD ((0) + Int.toNat i) (ET.dft .node)).kind, ((h4.set ((0) + Int.toNat i) (⟨(6 : Int), (h4.getD ((0) + Int.toNat i) (ET.dft .node)).key, (h4.getD ((0) + Int.toNat i) (ET.dft .node)).text, (h4.getD ((0) + Int.toNat i) (ET.dft .node)).whole, (h4.getD ((0) + Int.toNat i) (ET.dft .node)).int, (h4.getD ((0) + Int.toNat i) (ET.dft .node)).kids⟩ : Eng.Node)).getD ((0) + Int.toNat i) (ET.dft .node)).key, (⟨#[]⟩ : ByteArray), ((h4.set ((0) + Int.toNat i) (⟨(6 : Int), (h4.getD ((0) + Int.toNat i) (ET.dft .node)).key, (h4.getD ((0) + Int.toNat i) (ET.dft .node)).text, (h4.getD ((0) + Int.toNat i) (ET.dft .node)).whole, (h4.getD ((0) + Int.toNat i) (ET.dft .node)).int, (h4.getD ((0) + Int.toNat i) (ET.dft .node)).kids⟩ : Eng.Node)).getD ((0) + Int.toNat i) (ET.dft .node)).whole, ((h4.set ((0) + Int.toNat i) (⟨(6 : Int), (h4.getD ((0) + Int.toNat i) (ET.dft .node)).key, (h4.getD ((0) + Int.toNat i) (ET.dft .node)).text, (h4.getD ((0) + Int.toNat i) (ET.dft .node)).whole, (h4.getD ((0) + Int.toNat i) (ET.dft .node)).int, (h4.getD ((0) + Int.toNat i) (ET.dft .node)).kids⟩ : Eng.Node)).getD ((0) + Int.toNat i) (ET.dft .node)).int, ((h4.set ((0) + Int.toNat i) (⟨(6 : Int), (h4.getD ((0) + Int.toNat i) (ET.dft .node)).key, (h4.getD ((0) + Int.toNat i) (ET.dft .node)).text, (h4.getD ((0) + Int.toNat i) (ET.dft .node)).whole, (h4.getD ((0) + Int.toNat i) (ET.dft .node)).int, (h4.getD ((0) + Int.toNat i) (ET.dft .node)).kids⟩ : Eng.Node)).getD ((0) + Int.toNat i) (ET.dft .node)).kids⟩ : Eng.Node)).getD ((0) + Int.toNat i) (ET.dft .node)).kind, (((h4.set ((0) + Int.toNat i) (⟨(6 : Int), (h4.getD ((0) + Int.toNat i) (ET.dft .node)).key, (h4.getD ((0) + Int.toNat i) (ET.dft .node)).text, (h4.getD ((0) + Int.toNat i) (ET.dft .node)).whole, (h4.getD ((0) + Int.toNat i) (ET.dft .node)).int, (h4.getD ((0) + Int.toNat i) (ET.dft .node)).kids⟩ : Eng.Node)).set ((0) + Int.toNat i) (⟨((h4.set ((0) + Int.toNat i) (⟨(6 : Int), (h4.getD ((0) + Int.toNat i) (ET.dft .node)).key, (h4.getD ((0) + Int.toNat i) (ET.dft .node)).text, (h4.getD ((0) + Int.toNat i) (ET.dft .node)).whole, (h4.getD ((0) + Int.toNat i) (ET.dft .node)).int, (h4.getD ((0) + Int.toNat i) (ET.dft .node)).kids⟩ : Eng.Node)).getD ((0) + Int.toNat i) (ET.dft .node)).kind, ((h4.set ((0) + Int.toNat i) (⟨(6 : Int), (h4.getD ((0) + Int.toNat i) (ET.dft .node)).key, (h4.getD ((0) + Int.toNat i) (ET.dft .node)).text, (h4.getD ((0) + Int.toNat i) (ET.dft .node)).whole, (h4.getD ((0) + Int.toNat i) (ET.dft .node)).int, (h4.getD ((0) + Int.toNat i) (ET.dft .node)).kids⟩ : Eng.Node)).getD ((0) + Int.toNat i) (ET.dft .node)).key, (⟨#[]⟩ : ByteArray), ((h4.set ((0) + Int.toNat i) (⟨(6 : Int), (h4.getD ((0) + Int.toNat i) (ET.dft .node)).key, (h4.getD ((0) + Int.toNat i) (ET.dft .node)).text, (h4.getD ((0) + Int.toNat i) (ET.dft .node)).whole, (h4.getD ((0) + Int.toNat i) (ET.dft .node)).int, (h4.getD ((0) + Int.toNat i) (ET.dft .node)).kids⟩ : Eng.Node)).getD ((0) + Int.toNat i) (ET.dft .node)).whole, ((h4.set ((0) + Int.toNat i) (⟨(6 : Int), (h4.getD ((0) + Int.toNat i) (ET.dft .node)).key, (h4.getD ((0) + Int.toNat i) (ET.dft .node)).text, (h4.getD ((0) + Int.toNat i) (ET.dft .node)).whole, (h4.getD ((0) + Int.toNat i) (ET.dft .node)).int, (h4.getD ((0) + Int.toNat i) (ET.dft .node)).kids⟩ : Eng.Node)).getD ((0) + Int.toNat i) (ET.dft .node)).int, ((h4.set ((0) + Int.toNat i) (⟨(6 : Int), (h4.getD ((0) + Int.toNat i) (ET.dft .node)).key, (h4.getD ((0) + Int.toNat i) (ET.dft .node)).text, (h4.getD ((0) + Int.toNat i) (ET.dft .node)).whole, (h4.getD ((0) + Int.toNat i) (ET.dft .node)).int, (h4.getD ((0) + Int.toNat i) (ET.dft .node)).kids⟩ : Eng.Node)).getD ((0) + Int.toNat i) (ET.dft .node)).kids⟩ : Eng.Node)).getD ((0) + Int.toNat i) (ET.dft .node)).key, (((h4.set ((0) + Int.toNat i) (⟨(6 : Int), (h4.getD ((0) + Int.toNat i) (ET.dft .node)).key, (h4.getD ((0) + Int.toNat i) (ET.dft .node)).text, (h4.getD ((0) + Int.toNat i) (ET.dft .node)).whole, (h4.getD ((0) + Int.toNat i) (ET.dft .node)).int, (h4.getD ((0) + Int.toNat i) (ET.dft .node)).kids⟩ : Eng.Node)).set ((0) + Int.toNat i) (⟨((h4.set ((0) + Int.toNat i) (⟨(6 : Int), (h4.getD ((0) + Int.toNat i) (ET.dft .node)).key, (h4.getD ((0) + Int.toNat i) (ET.dft .node)).text, (h4.getD ((0) + Int.toNat i) (ET.dft .node)).whole, (h4.getD ((0) + Int.toNat i) (ET.dft .node)).int, (h4.getD ((0) + Int.toNat i) (ET.dft .node)).kids⟩ : Eng.Node)).getD ((0) + Int.toNat i) (ET.dft .node)).kind, ((h4.set ((0) + Int.toNat i) (⟨(6 : Int), (h4.getD ((0) + Int.toNat i) (ET.dft .node)).key, (h4.getD ((0) + Int.toNat i) (ET.dft .node)).text, (h4.getD ((0) + Int.toNat i) (ET.dft .node)).whole, (h4.getD ((0) + Int.toNat i) (ET.dft .node)).int, (h4.getD ((0) + Int.toNat i) (ET.dft .node)).kids⟩ : Eng.Node)).getD ((0) + Int.toNat i) (ET.dft .node)).key, (⟨#[]⟩ : ByteArray), ((h4.set ((0) + Int.toNat i) (⟨(6 : Int), (h4.getD ((0) + Int.toNat i) (ET.dft .node)).key, (h4.getD ((0) + Int.toNat i) (ET.dft .node)).text, (h4.getD ((0) + Int.toNat i) (ET.dft .node)).whole, (h4.getD ((0) + Int.toNat i) (ET.dft .node)).int, (h4.getD ((0) + Int.toNat i) (ET.dft .node)).kids⟩ : Eng.Node)).getD ((0) + Int.toNat i) (ET.dft .node)).whole, ((h4.set ((0) + Int.toNat i) (⟨(6 : Int), (h4.getD ((0) + Int.toNat i) (ET.dft .node)).key, (h4.getD ((0) + Int.toNat i) (ET.dft .node)).text, (h4.getD ((0) + Int.toNat i) (ET.dft .node)).whole, (h4.getD ((0) + Int.toNat i) (ET.dft .node)).int, (h4.getD ((0) + Int.toNat i) (ET.dft .node)).kids⟩ : Eng.Node)).getD ((0) + Int.toNat i) (ET.dft .node)).int, ((h4.set ((0) + Int.toNat i) (⟨(6 : Int), (h4.getD ((0) + Int.toNat i) (ET.dft .node)).key, (h4.getD ((0) + Int.toNat i) (ET.dft .node)).text, (h4.getD ((0) + Int.toNat i) (ET.dft .node)).whole, (h4.getD ((0) + Int.toNat i) (ET.dft .node)).int, (h4.getD ((0) + Int.toNat i) (ET.dft .node)).kids⟩ : Eng.Node)).getD ((0) + Int.toNat i) (ET.dft .node)).kids⟩ : Eng.Node)).getD ((0) + Int.toNat i) (ET.dft .node)).text, false, (((h4.set ((0) + Int.toNat i) (⟨(6 : Int), (h4.getD ((0) + Int.toNat i) (ET.dft .node)).key, (h4.getD ((0) + Int.toNat i) (ET.dft .node)).text, (h4.getD ((0) + Int.toNat i) (ET.dft .node)).whole, (h4.getD ((0) + Int.toNat i) (ET.dft .node)).int, (h4.getD ((0) + Int.toNat i) (ET.dft .node)).kids⟩ : Eng.Node)).set ((0) + Int.toNat i) (⟨((h4.set ((0) + Int.toNat i) (⟨(6 : Int), (h4.getD ((0) + Int.toNat i) (ET.dft .node)).key, (h4.getD ((0) + Int.toNat i) (ET.dft .node)).text, (h4.getD ((0) + Int.toNat i) (ET.dft .node)).whole, (h4.getD ((0) + Int.toNat i) (ET.dft .node)).int, (h4.getD ((0) + Int.toNat i) (ET.dft .node)).kids⟩ : Eng.Node)).getD ((0) + Int.toNat i) (ET.dft .node)).kind, ((h4.set ((0) + Int.toNat i) (⟨(6 : Int), (h4.getD ((0) + Int.toNat i) (ET.dft .node)).key, (h4.getD ((0) + Int.toNat i) (ET.dft .node)).text, (h4.getD ((0) + Int.toNat i) (ET.dft .node)).whole, (h4.getD ((0) + Int.toNat i) (ET.dft .node)).int, (h4.getD ((0) + Int.toNat i) (ET.dft .node)).kids⟩ : Eng.Node)).getD ((0) + Int.toNat i) (ET.dft .node)).key, (⟨#[]⟩ : ByteArray), ((h4.set ((0) + Int.toNat i) (⟨(6 : Int), (h4.getD ((0) + Int.toNat i) (ET.dft .node)).key, (h4.getD ((0) + Int.toNat i) (ET.dft .node)).text, (h4.getD ((0) + Int.toNat i) (ET.dft .node)).whole, (h4.getD ((0) + Int.toNat i) (ET.dft .node)).int, (h4.getD ((0) + Int.toNat i) (ET.dft .node)).kids⟩ : Eng.Node)).getD ((0) + Int.toNat i) (ET.dft .node)).whole, ((h4.set ((0) + Int.toNat i) (⟨(6 : Int), (h4.getD ((0) + Int.toNat i) (ET.dft .node)).key, (h4.getD ((0) + Int.toNat i) (ET.dft .node)).text, (h4.getD ((0) + Int.toNat i) (ET.dft .node)).whole, (h4.getD ((0) + Int.toNat i) (ET.dft .node)).int, (h4.getD ((0) + Int.toNat i) (ET.dft .node)).kids⟩ : Eng.Node)).getD ((0) + Int.toNat i) (ET.dft .node)).int, ((h4.set ((0) + Int.toNat i) (⟨(6 : Int), (h4.getD ((0) + Int.toNat i) (ET.dft .node)).key, (h4.getD ((0) + Int.toNat i) (ET.dft .node)).text, (h4.getD ((0) + Int.toNat i) (ET.dft .node)).whole, (h4.getD ((0) + Int.toNat i) (ET.dft .node)).int, (h4.getD ((0) + Int.toNat i) (ET.dft .node)).kids⟩ : Eng.Node)).getD ((0) + Int.toNat i) (ET.dft .node)).kids⟩ : Eng.Node)).getD ((0) + Int.toNat i) (ET.dft .node)).int, (((h4.set ((0) + Int.toNat i) (⟨(6 : Int), (h4.getD ((0) + Int.toNat i) (ET.dft .node)).key, (h4.getD ((0) + Int.toNat i) (ET.dft .node)).text, (h4.getD ((0) + Int.toNat i) (ET.dft .node)).whole, (h4.getD ((0) + Int.toNat i) (ET.dft .node)).int, (h4.getD ((0) + Int.toNat i) (ET.dft .node)).kids⟩ : Eng.Node)).set ((0) + Int.toNat i) (⟨((h4.set ((0) + Int.toNat i) (⟨(6 : Int), (h4.getD ((0) + Int.toNat i) (ET.dft .node)).key, (h4.getD ((0) + Int.toNat i) (ET.dft .node)).text, (h4.getD ((0) + Int.toNat i) (ET.dft .node)).whole, (h4.getD ((0) + Int.toNat i) (ET.dft .node)).int, (h4.getD ((0) + Int.toNat i) (ET.dft .node)).kids⟩ : Eng.Node)).getD ((0) + Int.toNat i) (ET.dft .node)).kind, ((h4.set ((0) + Int.toNat i) (⟨(6 : Int), (h4.getD ((0) + Int.toNat i) (ET.dft .node)).key, (h4.getD ((0) + Int.toNat i) (ET.dft .node)).text, (h4.getD ((0) + Int.toNat i) (ET.dft .node)).whole, (h4.getD ((0) + Int.toNat i) (ET.dft .node)).int, (h4.getD ((0) + Int.toNat i) (ET.dft .node)).kids⟩ : Eng.Node)).getD ((0) + Int.toNat i) (ET.dft .node)).key, (⟨#[]⟩ : ByteArray), ((h4.set ((0) + Int.toNat i) (⟨(6 : Int), (h4.getD ((0) + Int.toNat i) (ET.dft .node)).key, (h4.getD ((0) + Int.toNat i) (ET.dft .node)).text, (h4.getD ((0) + Int.toNat i) (ET.dft .node)).whole, (h4.getD ((0) + Int.toNat i) (ET.dft .node)).int, (h4.getD ((0) + Int.toNat i) (ET.dft .node)).kids⟩ : Eng.Node)).getD ((0) + Int.toNat i) (ET.dft .node)).whole, ((h4.set ((0) + Int.toNat i) (⟨(6 : Int), (h4.getD ((0) + Int.toNat i) (ET.dft .node)).key, (h4.getD ((0) + Int.toNat i) (ET.dft .node)).text, (h4.getD ((0) + Int.toNat i) (ET.dft .node)).whole, (h4.getD ((0) + Int.toNat i) (ET.dft .node)).int, (h4.getD ((0) + Int.toNat i) (ET.dft .node)).kids⟩ : Eng.Node)).getD ((0) + Int.toNat i) (ET.dft .node)).int, ((h4.set ((0) + Int.toNat i) (⟨(6 : Int), (h4.getD ((0) + Int.toNat i) (ET.dft .node)).key, (h4.getD ((0) + Int.toNat i) (ET.dft .node)).text, (h4.getD ((0) + Int.toNat i) (ET.dft .node)).whole, (h4.getD ((0) + Int.toNat i) (ET.dft .node)).int, (h4.getD ((0) + Int.toNat i) (ET.dft .node)).kids⟩ : Eng.Node)).getD ((0) + Int.toNat i) (ET.dft .node)).kids⟩ : Eng.Node)).getD ((0) + Int.toNat i) (ET.dft .node)).kids⟩ : Eng.Node)).getD ((0) + Int.toNat i) (ET.dft .node)).text, ((((h4.set ((0) + Int.toNat i) (⟨(6 : Int), (h4.getD ((0) + Int.toNat i) (ET.dft .node)).key, (h4.getD ((0) + Int.toNat i) (ET.dft .node)).text, (h4.getD ((0) + Int.toNat i) (ET.dft .node)).whole, (h4.getD ((0) + Int.toNat i) (ET.dft .node)).int, (h4.getD ((0) + Int.toNat i) (ET.dft .node)).kids⟩ : Eng.Node)).set ((0) + Int.toNat i) (⟨((h4.set ((0) + Int.toNat i) (⟨(6 : Int), (h4.getD ((0) + Int.toNat i) (ET.dft .node)).key, (h4.getD ((0) + Int.toNat i) (ET.dft .node)).text, (h4.getD ((0) + Int.toNat i) (ET.dft .node)).whole, (h4.getD ((0) + Int.toNat i) (ET.dft .node)).int, (h4.getD ((0) + Int.toNat i) (ET.dft .node)).kids⟩ : Eng.Node)).getD ((0) + Int.toNat i) (ET.dft .node)).kind, ((h4.set ((0) + Int.toNat i) (⟨(6 : Int), (h4.getD ((0) + Int.toNat i) (ET.dft .node)).key, (h4.getD ((0) + Int.toNat i) (ET.dft .node)).text, (h4.getD ((0) + Int.toNat i) (ET.dft .node)).whole, (h4.getD ((0) + Int.toNat i) (ET.dft .node)).int, (h4.getD ((0) + Int.toNat i) (ET.dft .node)).kids⟩ : Eng.Node)).getD ((0) + Int.toNat i) (ET.dft .node)).key, (⟨#[]⟩ : ByteArray), ((h4.set ((0) + Int.toNat i) (⟨(6 : Int), (h4.getD ((0) + Int.toNat i) (ET.dft .node)).key, (h4.getD ((0) + Int.toNat i) (ET.dft .node)).text, (h4.getD ((0) + Int.toNat i) (ET.dft .node)).whole, (h4.getD ((0) + Int.toNat i) (ET.dft .node)).int, (h4.getD ((0) + Int.toNat i) (ET.dft .node)).kids⟩ : Eng.Node)).getD ((0) + Int.toNat i) (ET.dft .node)).whole, ((h4.set ((0) + Int.toNat i) (⟨(6 : Int), (h4.getD ((0) + Int.toNat i) (ET.dft .node)).key, (h4.getD ((0) + Int.toNat i) (ET.dft .node)).text, (h4.getD ((0) + Int.toNat i) (ET.dft .node)).whole, (h4.getD ((0) + Int.toNat i) (ET.dft .node)).int, (h4.getD ((0) + Int.toNat i) (ET.dft .node)).kids⟩ : Eng.Node)).getD ((0) + Int.toNat i) (ET.dft .node)).int, ((h4.set ((0) + Int.toNat i) (⟨(6 : Int), (h4.getD ((0) + Int.toNat i) (ET.dft .node)).key, (h4.getD ((0) + Int.toNat i) (ET.dft .node)).text, (h4.getD ((0) + Int.toNat i) (ET.dft .node)).whole, (h4.getD ((0) + Int.toNat i) (ET.dft .node)).int, (h4.getD ((0) + Int.toNat i) (ET.dft .node)).kids⟩ : Eng.Node)).getD ((0) + Int.toNat i) (ET.dft .node)).kids⟩ : Eng.Node)).set ((0) + Int.toNat i) (⟨(((h4.set ((0) + Int.toNat i) (⟨(6 : Int), (h4.getD ((0) + Int.toNat i) (ET.dft .node)).key, (h4.getD ((0) + Int.toNat i) (ET.dft .node)).text, (h4.getD ((0) + Int.toNat i) (ET.dft .node)).whole, (h4.getD ((0) + Int.toNat i) (ET.dft .node)).int, (h4.getD ((0) + Int.toNat i) (ET.dft .node)).kids⟩ : Eng.Node)).set ((0) + Int.toNat i) (⟨((h4.set ((0) + Int.toNat i) (⟨(6 : Int), (h4.getD ((0) + Int.toNat i) (ET.dft .node)).key, (h4.getD ((0) + Int.toNat i) (ET.dft .node)).text, (h4.getD ((0) + Int.toNat i) (ET.dft .node)).whole, (h4.getD ((0) + Int.toNat i) (ET.dft .node)).int, (h4.getD ((0) + Int.toNat i) (ET.dft .node)).kids⟩ : Eng.Node)).getD ((0) + Int.toNat i) (ET.dft .node)).kind, ((h4.set ((0) + Int.toNat i) (⟨(6 : Int), (h4.getD ((0) + Int.toNat i) (ET.dft .node)).key, (h4.getD ((0) + Int.toNat i) (ET.dft .node)).text, (h4.getD ((0) + Int.toNat i) (ET.dft .node)).whole, (h4.getD ((0) + Int.toNat i) (ET.dft .node)).int, (h4.getD ((0) + Int.toNat i) (ET.dft .node)).kids⟩ : Eng.Node)).getD ((0) + Int.toNat i) (ET.dft .node)).key, (⟨#[]⟩ : ByteArray), ((h4.set ((0) + Int.toNat i) (⟨(6 : Int), (h4.getD ((0) + Int.toNat i) (ET.dft .node)).key, (h4.getD ((0) + Int.toNat i) (ET.dft .node)).text, (h4.getD ((0) + Int.toNat i) (ET.dft .node)).whole, (h4.getD ((0) + Int.toNat i) (ET.dft .node)).int, (h4.getD ((0) + Int.toNat i) (ET.dft .node)).kids⟩ : Eng.Node)).getD ((0) + Int.toNat i) (ET.dft .node)).whole, ((h4.set ((0) + Int.toNat i) (⟨(6 : Int), (h4.getD ((0) + Int.toNat i) (ET.dft .node)).key, (h4.getD ((0) + Int.toNat i) (ET.dft .node)).text, (h4.getD ((0) + Int.toNat i) (ET.dft .node)).whole, (h4.getD ((0) + Int.toNat i) (ET.dft .node)).int, (h4.getD ((0) + Int.toNat i) (ET.dft .node)).kids⟩ : Eng.Node)).getD ((0) + Int.toNat i) (ET.dft .node)).int, ((h4.set ((0) + Int.toNat i) (⟨(6 : Int), (h4.getD ((0) + Int.toNat i) (ET.dft .node)).key, (h4.getD ((0) + Int.toNat i) (ET.dft .node)).text, (h4.getD ((0) + Int.toNat i) (ET.dft .node)).whole, (h4.getD ((0) + Int.toNat i) (ET.dft .node)).int, (h4.getD ((0) + Int.toNat i) (ET.dft .node)).kids⟩ : Eng.Node)).getD ((0) + Int.toNat i) (ET.dft .node)).kids⟩ : Eng.Node)).getD ((0) + Int.toNat i) (ET.dft .node)).kind, (((h4.set ((0) + Int.toNat i) (⟨(6 : Int), (h4.getD ((0) + Int.toNat i) (ET.dft .node)).key, (h4.getD ((0) + Int.toNat i) (ET.dft .node)).text, (h4.getD ((0) + Int.toNat i) (ET.dft .node)).whole, (h4.getD ((0) + Int.toNat i) (ET.dft .node)).int, (h4.getD ((0) + Int.toNat i) (ET.dft .node)).kids⟩ : Eng.Node)).set ((0) + Int.toNat i) (⟨((h4.set ((0) + Int.toNat i) (⟨(6 : Int), (h4.getD ((0) + Int.toNat i) (ET.dft .node)).key, (h4.getD ((0) + Int.toNat i) (ET.dft .node)).text, (h4.getD ((0) + Int.toNat i) (ET.dft .node)).whole, (h4.getD ((0) + Int.toNat i) (ET.dft .node)).int, (h4.getD ((0) + Int.toNat i) (ET.dft .node)).kids⟩ : Eng.Node)).getD ((0) + Int.toNat i) (ET.dft .node)).kind, ((h4.set ((0) + Int.toNat i) (⟨(6 : Int), (h4.getD ((0) + Int.toNat i) (ET.dft .node)).key, (h4.getD ((0) + Int.toNat i) (ET.dft .node)).text, (h4.getD ((0) + Int.toNat i) (ET.dft .node)).whole, (h4.getD ((0) + Int.toNat i) (ET.dft .node)).int, (h4.getD ((0) + Int.toNat i) (ET.dft .node)).kids⟩ : Eng.Node)).getD ((0) + Int.toNat i) (ET.dft .node)).key, (⟨#[]⟩ : ByteArray), ((h4.set ((0) + Int.toNat i) (⟨(6 : Int), (h4.getD ((0) + Int.toNat i) (ET.dft .node)).key, (h4.getD ((0) + Int.toNat i) (ET.dft .node)).text, (h4.getD ((0) + Int.toNat i) (ET.dft .node)).whole, (h4.getD ((0) + Int.toNat i) (ET.dft .node)).int, (h4.getD ((0) + Int.toNat i) (ET.dft .node)).kids⟩ : Eng.Node)).getD ((0) + Int.toNat i) (ET.dft .node)).whole, ((h4.set ((0) + Int.toNat i) (⟨(6 : Int), (h4.getD ((0) + Int.toNat i) (ET.dft .node)).key, (h4.getD ((0) + Int.toNat i) (ET.dft .node)).text, (h4.getD ((0) + Int.toNat i) (ET.dft .node)).whole, (h4.getD ((0) + Int.toNat i) (ET.dft .node)).int, (h4.getD ((0) + Int.toNat i) (ET.dft .node)).kids⟩ : Eng.Node)).getD ((0) + Int.toNat i) (ET.dft .node)).int, ((h4.set ((0) + Int.toNat i) (⟨(6 : Int), (h4.getD ((0) + Int.toNat i) (ET.dft .node)).key, (h4.getD ((0) + Int.toNat i) (ET.dft .node)).text, (h4.getD ((0) + Int.toNat i) (ET.dft .node)).whole, (h4.getD ((0) + Int.toNat i) (ET.dft .node)).int, (h4.getD ((0) + Int.toNat i) (ET.dft .node)).kids⟩ : Eng.Node)).getD ((0) + Int.toNat i) (ET.dft .node)).kids⟩ : Eng.Node)).getD ((0) + Int.toNat i) (ET.dft .node)).key, (((h4.set ((0) + Int.toNat i) (⟨(6 : Int), (h4.getD ((0) + Int.toNat i) (ET.dft .node)).key, (h4.getD ((0) + Int.toNat i) (ET.dft .node)).text, (h4.getD ((0) + Int.toNat i) (ET.dft .node)).whole, (h4.getD ((0) + Int.toNat i) (ET.dft .node)).int, (h4.getD ((0) + Int.toNat i) (ET.dft .node)).kids⟩ : Eng.Node)).set ((0) + Int.toNat i) (⟨((h4.set ((0) + Int.toNat i) (⟨(6 : Int), (h4.getD ((0) + Int.toNat i) (ET.dft .node)).key, (h4.getD ((0) + Int.toNat i) (ET.dft .node)).text, (h4.getD ((0) + Int.toNat i) (ET.dft .node)).whole, (h4.getD ((0) + Int.toNat i) (ET.dft .node)).int, (h4.getD ((0) + Int.toNat i) (ET.dft .node)).kids⟩ : Eng.Node)).getD ((0) + Int.toNat i) (ET.dft .node)).kind, ((h4.set ((0) + Int.toNat i) (⟨(6 : Int), (h4.getD ((0) + Int.toNat i) (ET.dft .node)).key, (h4.getD ((0) + Int.toNat i) (ET.dft .node)).text, (h4.getD ((0) + Int.toNat i) (ET.dft .node)).whole, (h4.getD ((0) + Int.toNat i) (ET.dft .node)).int, (h4.getD ((0) + Int.toNat i) (ET.dft .node)).kids⟩ : Eng.Node)).getD ((0) + Int.toNat i) (ET.dft .node)).key, (⟨#[]⟩ : ByteArray), ((h4.set ((0) + Int.toNat i) (⟨(6 : Int), (h4.getD ((0) + Int.toNat i) (ET.dft .node)).key, (h4.getD ((0) + Int.toNat i) (ET.dft .node)).text, (h4.getD ((0) + Int.toNat i) (ET.dft .node)).whole, (h4.getD ((0) + Int.toNat i) (ET.dft .node)).int, (h4.getD ((0) + Int.toNat i) (ET.dft .node)).kids⟩ : Eng.Node)).getD ((0) + Int.toNat i) (ET.dft .node)).whole, ((h4.set ((0) + Int.toNat i) (⟨(6 : Int), (h4.getD ((0) + Int.toNat i) (ET.dft .node)).key, (h4.getD ((0) + Int.toNat i) (ET.dft .node)).text, (h4.getD ((0) + Int.toNat i) (ET.dft .node)).whole, (h4.getD ((0) + Int.toNat i) (ET.dft .node)).int, (h4.getD ((0) + Int.toNat i) (ET.dft .node)).kids⟩ : Eng.Node)).getD ((0) + Int.toNat i) (ET.dft .node)).int, ((h4.set ((0) + Int.toNat i) (⟨(6 : Int), (h4.getD ((0) + Int.toNat i) (ET.dft .node)).key, (h4.getD ((0) + Int.toNat i) (ET.dft .node)).text, (h4.getD ((0) + Int.toNat i) (ET.dft .node)).whole, (h4.getD ((0) + Int.toNat i) (ET.dft .node)).int, (h4.getD ((0) + Int.toNat i) (ET.dft .node)).kids⟩ : Eng.Node)).getD ((0) + Int.toNat i) (ET.dft .node)).kids⟩ : Eng.Node)).getD ((0) + Int.toNat i) (ET.dft .node)).text, false, (((h4.set ((0) + Int.toNat i) (⟨(6 : Int), (h4.getD ((0) + Int.toNat i) (ET.dft .node)).key, (h4.getD ((0) + Int.toNat i) (ET.dft .node)).text, (h4.getD ((0) + Int.toNat i) (ET.dft .node)).whole, (h4.getD ((0) + Int.toNat i) (ET.dft .node)).int, (h4.getD ((0) + Int.toNat i) (ET.dft .node)).kids⟩ : Eng.Node)).set ((0) + Int.toNat i) (⟨((h4.set ((0) + Int.toNat i) (⟨(6 : Int), (h4.getD ((0) + Int.toNat i) (ET.dft .node)).key, (h4.getD ((0) + Int.toNat i) (ET.dft .node)).text, (h4.getD ((0) + Int.toNat i) (ET.dft .node)).whole, (h4.getD ((0) + Int.toNat i) (ET.dft .node)).int, (h4.getD ((0) + Int.toNat i) (ET.dft .node)).kids⟩ : Eng.Node)).getD ((0) + Int.toNat i) (ET.dft .node)).kind, ((h4.set ((0) + Int.toNat i) (⟨(6 : Int), (h4.getD ((0) + Int.toNat i) (ET.dft .node)).key, (h4.getD ((0) + Int.toNat i) (ET.dft .node)).text, (h4.getD ((0) + Int.toNat i) (ET.dft .node)).whole, (h4.getD ((0) + Int.toNat i) (ET.dft .node)).int, (h4.getD ((0) + Int.toNat i) (ET.dft .node)).kids⟩ : Eng.Node)).getD ((0) + Int.toNat i) (ET.dft .node)).key, (⟨#[]⟩ : ByteArray), ((h4.set ((0) + Int.toNat i) (⟨(6 : Int), (h4.getD ((0) + Int.toNat i) (ET.dft .node)).key, (h4.getD ((0) + Int.toNat i) (ET.dft .node)).text, (h4.getD ((0) + Int.toNat i) (ET.dft .node)).whole, (h4.getD ((0) + Int.toNat i) (ET.dft .node)).int, (h4.getD ((0) + Int.toNat i) (ET.dft .node)).kids⟩ : Eng.Node)).getD ((0) + Int.toNat i) (ET.dft .node)).whole, ((h4.set ((0) + Int.toNat i) (⟨(6 : Int), (h4.getD ((0) + Int.toNat i) (ET.dft .node)).key, (h4.getD ((0) + Int.toNat i) (ET.dft .node)).text, (h4.getD ((0) + Int.toNat i) (ET.dft .node)).whole, (h4.getD ((0) + Int.toNat i) (ET.dft .node)).int, (h4.getD ((0) + Int.toNat i) (ET.dft .node)).kids⟩ : Eng.Node)).getD ((0) + Int.toNat i) (ET.dft .node)).int, ((h4.set ((0) + Int.toNat i) (⟨(6 : Int), (h4.getD ((0) + Int.toNat i) (ET.dft .node)).key, (h4.getD ((0) + Int.toNat i) (ET.dft .node)).text, (h4.getD ((0) + Int.toNat i) (ET.dft .node)).whole, (h4.getD ((0) + Int.toNat i) (ET.dft .node)).int, (h4.getD ((0) + Int.toNat i) (ET.dft .node)).kids⟩ : Eng.Node)).getD ((0) + Int.toNat i) (ET.dft .node)).kids⟩ : Eng.Node)).getD ((0) + Int.toNat i) (ET.dft .node)).int, (((h4.set ((0) + Int.toNat i) (⟨(6 : Int), (h4.getD ((0) + Int.toNat i) (ET.dft .node)).key, (h4.getD ((0) + Int.toNat i) (ET.dft .node)).text, (h4.getD ((0) + Int.toNat i) (ET.dft .node)).whole, (h4.getD ((0) + Int.toNat i) (ET.dft .node)).int, (h4.getD ((0) + Int.toNat i) (ET.dft .node)).kids⟩ : Eng.Node)).set ((0) + Int.toNat i) (⟨((h4.set ((0) + Int.toNat i) (⟨(6 : Int), (h4.getD ((0) + Int.toNat i) (ET.dft .node)).key, (h4.getD ((0) + Int.toNat i) (ET.dft .node)).text, (h4.getD ((0) + Int.toNat i) (ET.dft .node)).whole, (h4.getD ((0) + Int.toNat i) (ET.dft .node)).int, (h4.getD ((0) + Int.toNat i) (ET.dft .node)).kids⟩ : Eng.Node)).getD ((0) + Int.toNat i) (ET.dft .node)).kind, ((h4.set ((0) + Int.toNat i) (⟨(6 : Int), (h4.getD ((0) + Int.toNat i) (ET.dft .node)).key, (h4.getD ((0) + Int.toNat i) (ET.dft .node)).text, (h4.getD ((0) + Int.toNat i) (ET.dft .node)).whole, (h4.getD ((0) + Int.toNat i) (ET.dft .node)).int, (h4.getD ((0) + Int.toNat i) (ET.dft .node)).kids⟩ : Eng.Node)).getD ((0) + Int.toNat i) (ET.dft .node)).key, (⟨#[]⟩ : ByteArray), ((h4.set ((0) + Int.toNat i) (⟨(6 : Int), (h4.getD ((0) + Int.toNat i) (ET.dft .node)).key, (h4.getD ((0) + Int.toNat i) (ET.dft .node)).text, (h4.getD ((0) + Int.toNat i) (ET.dft .node)).whole, (h4.getD ((0) + Int.toNat i) (ET.dft .node)).int, (h4.getD ((0) + Int.toNat i) (ET.dft .node)).kids⟩ : Eng.Node)).getD ((0) + Int.toNat i) (ET.dft .node)).whole, ((h4.set ((0) + Int.toNat i) (⟨(6 : Int), (h4.getD ((0) + Int.toNat i) (ET.dft .node)).key, (h4.getD ((0) + Int.toNat i) (ET.dft .node)).text, (h4.getD ((0) + Int.toNat i) (ET.dft .node)).whole, (h4.getD ((0) + Int.toNat i) (ET.dft .node)).int, (h4.getD ((0) + Int.toNat i) (ET.dft .node)).kids⟩ : Eng.Node)).getD ((0) + Int.toNat i) (ET.dft .node)).int, ((h4.set ((0) + Int.toNat i) (⟨(6 : Int), (h4.getD ((0) + Int.toNat i) (ET.dft .node)).key, (h4.getD ((0) + Int.toNat i) (ET.dft .node)).text, (h4.getD ((0) + Int.toNat i) (ET.dft .node)).whole, (h4.getD ((0) + Int.toNat i) (ET.dft .node)).int, (h4.getD ((0) + Int.toNat i) (ET.dft .node)).kids⟩ : Eng.Node)).getD ((0) + Int.toNat i) (ET.dft .node)).kids⟩ : Eng.Node)).getD ((0) + Int.toNat i) (ET.dft .node)).kids⟩ : Eng.Node)).getD ((0) + Int.toNat i) (ET.dft .node)).whole, (0 : Int), ((((h4.set ((0) + Int.toNat i) (⟨(6 : Int), (h4.getD ((0) + Int.toNat i) (ET.dft .node)).key, (h4.getD ((0) + Int.toNat i) (ET.dft .node)).text, (h4.getD ((0) + Int.toNat i) (ET.dft .node)).whole, (h4.getD ((0) + Int.toNat i) (ET.dft .node)).int, (h4.getD ((0) + Int.toNat i) (ET.dft .node)).kids⟩ : Eng.Node)).set ((0) + Int.toNat i) (⟨((h4.set ((0) + Int.toNat i) (⟨(6 : Int), (h4.getD ((0) + Int.toNat i) (ET.dft .node)).key, (h4.getD ((0) + Int.toNat i) (ET.dft .node)).text, (h4.getD ((0) + Int.toNat i) (ET.dft .node)).whole, (h4.getD ((0) + Int.toNat i) (ET.dft .node)).int, (h4.getD ((0) + Int.toNat i) (ET.dft .node)).kids⟩ : Eng.Node)).getD ((0) + Int.toNat i) (ET.dft .node)).kind, ((h4.set ((0) + Int.toNat i) (⟨(6 : Int), (h4.getD ((0) + Int.toNat i) (ET.dft .node)).key, (h4.getD ((0) + Int.toNat i) (ET.dft .node)).text, (h4.getD ((0) + Int.toNat i) (ET.dft .node)).whole, (h4.getD ((0) + Int.toNat i) (ET.dft .node)).int, (h4.getD ((0) + Int.toNat i) (ET.dft .node)).kids⟩ : Eng.Node)).getD ((0) + Int.toNat i) (ET.dft .node)).key, (⟨#[]⟩ : ByteArray), ((h4.set ((0) + Int.toNat i) (⟨(6 : Int), (h4.getD ((0) + Int.toNat i) (ET.dft .node)).key, (h4.getD ((0) + Int.toNat i) (ET.dft .node)).text, (h4.getD ((0) + Int.toNat i) (ET.dft .node)).whole, (h4.getD ((0) + Int.toNat i) (ET.dft .node)).int, (h4.getD ((0) + Int.toNat i) (ET.dft .node)).kids⟩ : Eng.Node)).getD ((0) + Int.toNat i) (ET.dft .node)).whole, ((h4.set ((0) + Int.toNat i) (⟨(6 : Int), (h4.getD ((0) + Int.toNat i) (ET.dft .node)).key, (h4.getD ((0) + Int.toNat i) (ET.dft .node)).text, (h4.getD ((0) + Int.toNat i) (ET.dft .node)).whole, (h4.getD ((0) + Int.toNat i) (ET.dft .node)).int, (h4.getD ((0) + Int.toNat i) (ET.dft .node)).kids⟩ : Eng.Node)).getD ((0) + Int.toNat i) (ET.dft .node)).int, ((h4.set ((0) + Int.toNat i) (⟨(6 : Int), (h4.getD ((0) + Int.toNat i) (ET.dft .node)).key, (h4.getD ((0) + Int.toNat i) (ET.dft .node)).text, (h4.getD ((0) + Int.toNat i) (ET.dft .node)).whole, (h4.getD ((0) + Int.toNat i) (ET.dft .node)).int, (h4.getD ((0) + Int.toNat i) (ET.dft .node)).kids⟩ : Eng.Node)).getD ((0) + Int.toNat i) (ET.dft .node)).kids⟩ : Eng.Node)).set ((0) + Int.toNat i) (⟨(((h4.set ((0) + Int.toNat i) (⟨(6 : Int), (h4.getD ((0) + Int.toNat i) (ET.dft .node)).key, (h4.getD ((0) + Int.toNat i) (ET.dft .node)).text, (h4.getD ((0) + Int.toNat i) (ET.dft .node)).whole, (h4.getD ((0) + Int.toNat i) (ET.dft .node)).int, (h4.getD ((0) + Int.toNat i) (ET.dft .node)).kids⟩ : Eng.Node)).set ((0) + Int.toNat i) (⟨((h4.set ((0) + Int.toNat i) (⟨(6 : Int), (h4.getD ((0) + Int.toNat i) (ET.dft .node)).key, (h4.getD ((0) + Int.toNat i) (ET.dft .node)).text, (h4.getD ((0) + Int.toNat i) (ET.dft .node)).whole, (h4.getD ((0) + Int.toNat i) (ET.dft .node)).int, (h4.getD ((0) + Int.toNat i) (ET.dft .node)).kids⟩ : Eng.Node)).getD ((0) + Int.toNat i) (ET.dft .node)).kind, ((h4.set ((0) + Int.toNat i) (⟨(6 : Int), (h4.getD ((0) + Int.toNat i) (ET.dft .node)).key, (h4.getD ((0) + Int.toNat i) (ET.dft .node)).text, (h4.getD ((0) + Int.toNat i) (ET.dft .node)).whole, (h4.getD ((0) + Int.toNat i) (ET.dft .node)).int, (h4.getD ((0) + Int.toNat i) (ET.dft .node)).kids⟩ : Eng.Node)).getD ((0) + Int.toNat i) (ET.dft .node)).key, (⟨#[]⟩ : ByteArray), ((h4.set ((0) + Int.toNat i) (⟨(6 : Int), (h4.getD ((0) + Int.toNat i) (ET.dft .node)).key, (h4.getD ((0) + Int.toNat i) (ET.dft .node)).text, (h4.getD ((0) + Int.toNat i) (ET.dft .node)).whole, (h4.getD ((0) + Int.toNat i) (ET.dft .node)).int, (h4.getD ((0) + Int.toNat i) (ET.dft .node)).kids⟩ : Eng.Node)).getD ((0) + Int.toNat i) (ET.dft .node)).whole, ((h4.set ((0) + Int.toNat i) (⟨(6 : Int), (h4.getD ((0) + Int.toNat i) (ET.dft .node)).key, (h4.getD ((0) + Int.toNat i) (ET.dft .node)).text, (h4.getD ((0) + Int.toNat i) (ET.dft .node)).whole, (h4.getD ((0) + Int.toNat i) (ET.dft .node)).int, (h4.getD ((0) + Int.toNat i) (ET.dft .node)).kids⟩ : Eng.Node)).getD ((0) + Int.toNat i) (ET.dft .node)).int, ((h4.set ((0) + Int.toNat i) (⟨(6 : Int), (h4.getD ((0) + Int.toNat i) (ET.dft .node)).key, (h4.getD ((0) + Int.toNat i) (ET.dft .node)).text, (h4.getD ((0) + Int.toNat i) (ET.dft .node)).whole, (h4.getD ((0) + Int.toNat i) (ET.dft .node)).int, (h4.getD ((0) + Int.toNat i) (ET.dft .node)).kids⟩ : Eng.Node)).getD ((0) + Int.toNat i) (ET.dft .node)).kids⟩ : Eng.Node)).getD ((0) + Int.toNat i) (ET.dft .node)).kind, (((h4.set ((0) + Int.toNat i) (⟨(6 : Int), (h4.getD ((0) + Int.toNat i) (ET.dft .node)).key, (h4.getD ((0) + Int.toNat i) (ET.dft .node)).text, (h4.getD ((0) + Int.toNat i) (ET.dft .node)).whole, (h4.getD ((0) + Int.toNat i) (ET.dft .node)).int, (h4.getD ((0) + Int.toNat i) (ET.dft .node)).kids⟩ : Eng.Node)).set ((0) + Int.toNat i) (⟨((h4.set ((0) + Int.toNat i) (⟨(6 : Int), (h4.getD ((0) + Int.toNat i) (ET.dft .node)).key, (h4.getD ((0) + Int.toNat i) (ET.dft .node)).text, (h4.getD ((0) + Int.toNat i) (ET.dft .node)).whole, (h4.getD ((0) + Int.toNat i) (ET.dft .node)).int, (h4.getD ((0) + Int.toNat i) (ET.dft .node)).kids⟩ : Eng.Node)).getD ((0) + Int.toNat i) (ET.dft .node)).kind, ((h4.set ((0) + Int.toNat i) (⟨(6 : Int), (h4.getD ((0) + Int.toNat i) (ET.dft .node)).key, (h4.getD ((0) + Int.toNat i) (ET.dft .node)).text, (h4.getD ((0) + Int.toNat i) (ET.dft .node)).whole, (h4.getD ((0) + Int.toNat i) (ET.dft .node)).int, (h4.getD ((0) + Int.toNat i) (ET.dft .node)).kids⟩ : Eng.Node)).getD ((0) + Int.toNat i) (ET.dft .node)).key, (⟨#[]⟩ : ByteArray), ((h4.set ((0) + Int.toNat i) (⟨(6 : Int), (h4.getD ((0) + Int.toNat i) (ET.dft .node)).key, (h4.getD ((0) + Int.toNat i) (ET.dft .node)).text, (h4.getD ((0) + Int.toNat i) (ET.dft .node)).whole, (h4.getD ((0) + Int.toNat i) (ET.dft .node)).int, (h4.getD ((0) + Int.toNat i) (ET.dft .node)).kids⟩ : Eng.Node)).getD ((0) + Int.toNat i) (ET.dft .node)).whole, ((h4.set ((0) + Int.toNat i) (⟨(6 : Int), (h4.getD ((0) + Int.toNat i) (ET.dft .node)).key, (h4.getD ((0) + Int.toNat i) (ET.dft .node)).text, (h4.getD ((0) + Int.toNat i) (ET.dft .node)).whole, (h4.getD ((0) + Int.toNat i) (ET.dft .node)).int, (h4.getD ((0) + Int.toNat i) (ET.dft .node)).kids⟩ : Eng.Node)).getD ((0) + Int.toNat i) (ET.dft .node)).int, ((h4.set ((0) + Int.toNat i) (⟨(6 : Int), (h4.getD ((0) + Int.toNat i) (ET.dft .node)).key, (h4.getD ((0) + Int.toNat i) (ET.dft .node)).text, (h4.getD ((0) + Int.toNat i) (ET.dft .node)).whole, (h4.getD ((0) + Int.toNat i) (ET.dft .node)).int, (h4.getD ((0) + Int.toNat i) (ET.dft .node)).kids⟩ : Eng.Node)).getD ((0) + Int.toNat i) (ET.dft .node)).kids⟩ : Eng.Node)).getD ((0) + Int.toNat i) (ET.dft .node)).key, (((h4.set ((0) + Int.toNat i) (⟨(6 : Int), (h4.getD ((0) + Int.toNat i) (ET.dft .node)).key, (h4.getD ((0) + Int.toNat i) (ET.dft .node)).text, (h4.getD ((0) + Int.toNat i) (ET.dft .node)).whole, (h4.getD ((0) + Int.toNat i) (ET.dft .node)).int, (h4.getD ((0) + Int.toNat i) (ET.dft .node)).kids⟩ : Eng.Node)).set ((0) + Int.toNat i) (⟨((h4.set ((0) + Int.toNat i) (⟨(6 : Int), (h4.getD ((0) + Int.toNat i) (ET.dft .node)).key, (h4.getD ((0) + Int.toNat i) (ET.dft .node)).text, (h4.getD ((0) + Int.toNat i) (ET.dft .node)).whole, (h4.getD ((0) + Int.toNat i) (ET.dft .node)).int, (h4.getD ((0) + Int.toNat i) (ET.dft .node)).kids⟩ : Eng.Node)).getD ((0) + Int.toNat i) (ET.dft .node)).kind, ((h4.set ((0) + Int.toNat i) (⟨(6 : Int), (h4.getD ((0) + Int.toNat i) (ET.dft .node)).key, (h4.getD ((0) + Int.toNat i) (ET.dft .node)).text, (h4.getD ((0) + Int.toNat i) (ET.dft .node)).whole, (h4.getD ((0) + Int.toNat i) (ET.dft .node)).int, (h4.getD ((0) + Int.toNat i) (ET.dft .node)).kids⟩ : Eng.Node)).getD ((0) + Int.toNat i) (ET.dft .node)).key, (⟨#[]⟩ : ByteArray), ((h4.set ((0) + Int.toNat i) (⟨(6 : Int), (h4.getD ((0) + Int.toNat i) (ET.dft .node)).key, (h4.getD ((0) + Int.toNat i) (ET.dft .node)).text, (h4.getD ((0) + Int.toNat i) (ET.dft .node)).whole, (h4.getD ((0) + Int.toNat i) (ET.dft .node)).int, (h4.getD ((0) + Int.toNat i) (ET.dft .node)).kids⟩ : Eng.Node)).getD ((0) + Int.toNat i) (ET.dft .node)).whole, ((h4.set ((0) + Int.toNat i) (⟨(6 : Int), (h4.getD ((0) + Int.toNat i) (ET.dft .node)).key, (h4.getD ((0) + Int.toNat i) (ET.dft .node)).text, (h4.getD ((0) + Int.toNat i) (ET.dft .node)).whole, (h4.getD ((0) + Int.toNat i) (ET.dft .node)).int, (h4.getD ((0) + Int.toNat i) (ET.dft .node)).kids⟩ : Eng.Node)).getD ((0) + Int.toNat i) (ET.dft .node)).int, ((h4.set ((0) + Int.toNat i) (⟨(6 : Int), (h4.getD ((0) + Int.toNat i) (ET.dft .node)).key, (h4.getD ((0) + Int.toNat i) (ET.dft .node)).text, (h4.getD ((0) + Int.toNat i) (ET.dft .node)).whole, (h4.getD ((0) + Int.toNat i) (ET.dft .node)).int, (h4.getD ((0) + Int.toNat i) (ET.dft .node)).kids⟩ : Eng.Node)).getD ((0) + Int.toNat i) (ET.dft .node)).kids⟩ : Eng.Node)).getD ((0) + Int.toNat i) (ET.dft .node)).text, false, (((h4.set ((0) + Int.toNat i) (⟨(6 : Int), (h4.getD ((0) + Int.toNat i) (ET.dft .node)).key, (h4.getD ((0) + Int.toNat i) (ET.dft .node)).text, (h4.getD ((0) + Int.toNat i) (ET.dft .node)).whole, (h4.getD ((0) + Int.toNat i) (ET.dft .node)).int, (h4.getD ((0) + Int.toNat i) (ET.dft .node)).kids⟩ : Eng.Node)).set ((0) + Int.toNat i) (⟨((h4.set ((0) + Int.toNat i) (⟨(6 : Int), (h4.getD ((0) + Int.toNat i) (ET.dft .node)).key, (h4.getD ((0) + Int.toNat i) (ET.dft .node)).text, (h4.getD ((0) + Int.toNat i) (ET.dft .node)).whole, (h4.getD ((0) + Int.toNat i) (ET.dft .node)).int, (h4.getD ((0) + Int.toNat i) (ET.dft .node)).kids⟩ : Eng.Node)).getD ((0) + Int.toNat i) (ET.dft .node)).kind, ((h4.set ((0) + Int.toNat i) (⟨(6 : Int), (h4.getD ((0) + Int.toNat i) (ET.dft .node)).key, (h4.getD ((0) + Int.toNat i) (ET.dft .node)).text, (h4.getD ((0) + Int.toNat i) (ET.dft .node)).whole, (h4.getD ((0) + Int.toNat i) (ET.dft .node)).int, (h4.getD ((0) + Int.toNat i) (ET.dft .node)).kids⟩ : Eng.Node)).getD ((0) + Int.toNat i) (ET.dft .node)).key, (⟨#[]⟩ : ByteArray), ((h4.set ((0) + Int.toNat i) (⟨(6 : Int), (h4.getD ((0) + Int.toNat i) (ET.dft .node)).key, (h4.getD ((0) + Int.toNat i) (ET.dft .node)).text, (h4.getD ((0) + Int.toNat i) (ET.dft .node)).whole, (h4.getD ((0) + Int.toNat i) (ET.dft .node)).int, (h4.getD ((0) + Int.toNat i) (ET.dft .node)).kids⟩ : Eng.Node)).getD ((0) + Int.toNat i) (ET.dft .node)).whole, ((h4.set ((0) + Int.toNat i) (⟨(6 : Int), (h4.getD ((0) + Int.toNat i) (ET.dft .node)).key, (h4.getD ((0) + Int.toNat i) (ET.dft .node)).text, (h4.getD ((0) + Int.toNat i) (ET.dft .node)).whole, (h4.getD ((0) + Int.toNat i) (ET.dft .node)).int, (h4.getD ((0) + Int.toNat i) (ET.dft .node)).kids⟩ : Eng.Node)).getD ((0) + Int.toNat i) (ET.dft .node)).int, ((h4.set ((0) + Int.toNat i) (⟨(6 : Int), (h4.getD ((0) + Int.toNat i) (ET.dft .node)).key, (h4.getD ((0) + Int.toNat i) (ET.dft .node)).text, (h4.getD ((0) + Int.toNat i) (ET.dft .node)).whole, (h4.getD ((0) + Int.toNat i) (ET.dft .node)).int, (h4.getD ((0) + Int.toNat i) (ET.dft .node)).kids⟩ : Eng.Node)).getD ((0) + Int.toNat i) (ET.dft .node)).kids⟩ : Eng.Node)).getD ((0) + Int.toNat i) (ET.dft .node)).int, (((h4.set ((0) + Int.toNat i) (⟨(6 : Int), (h4.getD ((0) + Int.toNat i) (ET.dft .node)).key, (h4.getD ((0) + Int.toNat i) (ET.dft .node)).text, (h4.getD ((0) + Int.toNat i) (ET.dft .node)).whole, (h4.getD ((0) + Int.toNat i) (ET.dft .node)).int, (h4.getD ((0) + Int.toNat i) (ET.dft .node)).kids⟩ : Eng.Node)).set ((0) + Int.toNat i) (⟨((h4.set ((0) + Int.toNat i) (⟨(6 : Int), (h4.getD ((0) + Int.toNat i) (ET.dft .node)).key, (h4.getD ((0) + Int.toNat i) (ET.dft .node)).text, (h4.getD ((0) + Int.toNat i) (ET.dft .node)).whole, (h4.getD ((0) + Int.toNat i) (ET.dft .node)).int, (h4.getD ((0) + Int.toNat i) (ET.dft .node)).kids⟩ : Eng.Node)).getD ((0) + Int.toNat i) (ET.dft .node)).kind, ((h4.set ((0) + Int.toNat i) (⟨(6 : Int), (h4.getD ((0) + Int.toNat i) (ET.dft .node)).key, (h4.getD ((0) + Int.toNat i) (ET.dft .node)).text, (h4.getD ((0) + Int.toNat i) (ET.dft .node)).whole, (h4.getD ((0) + Int.toNat i) (ET.dft .node)).int, (h4.getD ((0) + Int.toNat i) (ET.dft .node)).kids⟩ : Eng.Node)).getD ((0) + Int.toNat i) (ET.dft .node)).key, (⟨#[]⟩ : ByteArray), ((h4.set ((0) + Int.toNat i) (⟨(6 : Int), (h4.getD ((0) + Int.toNat i) (ET.dft .node)).key, (h4.getD ((0) + Int.toNat i) (ET.dft .node)).text, (h4.getD ((0) + Int.toNat i) (ET.dft .node)).whole, (h4.getD ((0) + Int.toNat i) (ET.dft .node)).int, (h4.getD ((0) + Int.toNat i) (ET.dft .node)).kids⟩ : Eng.Node)).getD ((0) + Int.toNat i) (ET.dft .node)).whole, ((h4.set ((0) + Int.toNat i) (⟨(6 : Int), (h4.getD ((0) + Int.toNat i) (ET.dft .node)).key, (h4.getD ((0) + Int.toNat i) (ET.dft .node)).text, (h4.getD ((0) + Int.toNat i) (ET.dft .node)).whole, (h4.getD ((0) + Int.toNat i) (ET.dft .node)).int, (h4.getD ((0) + Int.toNat i) (ET.dft .node)).kids⟩ : Eng.Node)).getD ((0) + Int.toNat i) (ET.dft .node)).int, ((h4.set ((0) + Int.toNat i) (⟨(6 : Int), (h4.getD ((0) + Int.toNat i) (ET.dft .node)).key, (h4.getD ((0) + Int.toNat i) (ET.dft .node)).text, (h4.getD ((0) + Int.toNat i) (ET.dft .node)).whole, (h4.getD ((0) + Int.toNat i) (ET.dft .node)).int, (h4.getD ((0) + Int.toNat i) (ET.dft .node)).kids⟩ : Eng.Node)).getD ((0) + Int.toNat i) (ET.dft .node)).kids⟩ : Eng.Node)).getD ((0) + Int.toNat i) (ET.dft .node)).kids⟩ : Eng.Node)).getD ((0) + Int.toNat i) (ET.dft .node)).kids⟩ : Eng.Node)))
  else (
    some h4)
noncomputable def signetlaw3_JsonFinds_p0_step (i : Int) (k__n : Nat) (h4 : List Eng.Node) : Option ((Int × (List Eng.Node)) ⊕ ((List Eng.Node))) :=
  bif decide (i < ((k__n : Nat) : Int)) then (
    gd (0 ≤ i ∧ i < ((k__n : Nat) : Int)) <|
    gd (((0) + Int.toNat i) < h4.length) <|
    gd (((0) + Int.toNat i) < h4.length) <|
    bif (!decide (((h4.getD ((0) + Int.toNat i) (ET.dft .node)).key) = (⟨#[]⟩ : ByteArray))) then (
      gd (0 ≤ i ∧ i < ((k__n : Nat) : Int)) <|
      gd (((0) + Int.toNat i) < h4.length) <|
      gd (((0) + Int.toNat i) < h4.length) <|
      gd (((h4.getD ((0) + Int.toNat i) (ET.dft .node)).key).size + (⟨#[113]⟩ : ByteArray).size ≤ 9223372036854775807) <|
      gd (0 ≤ i ∧ i < ((k__n : Nat) : Int)) <|
      gd (((0) + Int.toNat i) < h4.length) <|
      gd (((0) + Int.toNat i) < h4.length) <|
      (signetlaw3_JsonFinds_p1 i k__n (h4.set ((0) + Int.toNat i) (⟨(h4.getD ((0) + Int.toNat i) (ET.dft .node)).kind, (((h4.getD ((0) + Int.toNat i) (ET.dft .node)).key) ++ (⟨#[113]⟩ : ByteArray)), (h4.getD ((0) + Int.toNat i) (ET.dft .node)).text, (h4.getD ((0) + Int.toNat i) (ET.dft .node)).whole, (h4.getD ((0) + Int.toNat i) (ET.dft .node)).int, (h4.getD ((0) + Int.toNat i) (ET.dft .node)).kids⟩ : Eng.Node))).bind fun o36 =>
      gd (InI64 (i + (1 : Int))) <|
      some (.inl ((i + (1 : Int)), o36)))
    else (
      (signetlaw3_JsonFinds_p1 i k__n h4).bind fun o37 =>
      gd (InI64 (i + (1 : Int))) <|
      some (.inl ((i + (1 : Int)), o37))))
  else (
    some (.inr h4))
noncomputable def signetlaw3_JsonFinds_p0 (i : Int) (k__n : Nat) (h4 : List Eng.Node) : Option ((List Eng.Node)) :=
  whileO (fun x : (Int × (List Eng.Node)) => signetlaw3_JsonFinds_p0_step x.1 k__n x.2) (i, h4)
noncomputable def signetlaw3_JsonFinds_s (v : (List Eng.Node)) (at_ : Int) (key : ByteArray) : Option Bool :=
  (signetref3_Beyond_s v).bind fun r25 =>
  bif r25 then (
    some true)
  else (
    (signetlaw3_lent_s v).bind fun r26 =>
    gd ((0) + r26.2 ≤ r26.1.length) <|
    (json_Member_s ((r26.1.drop (0)).take r26.2) at_ key).bind fun r27 =>
    gd ((0) + r26.2 ≤ r26.1.length) <|
    (json_Kids_s ((r26.1.drop (0)).take r26.2) at_).bind fun r28 =>
    gd ((0) + r26.2 ≤ r26.1.length) <|
    (json_Behind_s ((r26.1.drop (0)).take r26.2) at_).bind fun r29 =>
    (signetlaw3_still_s r26.1 v (0) r26.2).bind fun r30 =>
    (signetref3_Shaped_s v).bind fun r31 =>
    bif ((!r31) || (!r30)) then (
      some r30)
    else (
      (signetref3_Kids_s v at_).bind fun r32 =>
      (signetref3_Member_s v at_ key).bind fun r33 =>
      bif (!decide (r27 = r33)) then (
        some false)
      else (
        (signetlaw3_sameInts_s r28 r32).bind fun r34 =>
        bif (!r34) then (
          some false)
        else (
          (signetref3_Behind_s v at_).bind fun r35 =>
          bif (!decide (r29 = r35)) then (
            some false)
          else (
            (signetlaw3_JsonFinds_p0 (0 : Int) r26.2 r26.1).bind fun o38 =>
            gd ((0) + r26.2 ≤ o38.length) <|
            (signetref3_Twin_s ((o38.drop (0)).take r26.2)).bind fun r39 =>
            (signetref3_Shaped_s r39).bind fun r40 =>
            bif (!r40) then (
              some true)
            else (
              gd (key.size + (⟨#[113]⟩ : ByteArray).size ≤ 9223372036854775807) <|
              gd ((0) + r26.2 ≤ o38.length) <|
              (json_Member_s ((o38.drop (0)).take r26.2) at_ (key ++ (⟨#[113]⟩ : ByteArray))).bind fun r41 =>
              gd ((0) + r26.2 ≤ o38.length) <|
              (json_Kids_s ((o38.drop (0)).take r26.2) at_).bind fun r42 =>
              gd ((0) + r26.2 ≤ o38.length) <|
              (json_Behind_s ((o38.drop (0)).take r26.2) at_).bind fun r43 =>
              (signetlaw3_still_s o38 r39 (0) r26.2).bind fun r44 =>
              (signetref3_Kids_s r39 at_).bind fun r45 =>
              gd (key.size + (⟨#[113]⟩ : ByteArray).size ≤ 9223372036854775807) <|
              (signetref3_Member_s r39 at_ (key ++ (⟨#[113]⟩ : ByteArray))).bind fun r46 =>
              bif (!decide (r41 = r46)) then (
                some false)
              else (
                (signetlaw3_sameInts_s r42 r45).bind fun r47 =>
                bif (!r47) then (
                  some false)
                else (
                  (signetref3_Behind_s r39 at_).bind fun r48 =>
                  bif ((!decide (r43 = r48)) || (!r44)) then (
                    some false)
                  else (
                    (signetlaw3_sameInts_s r28 r32).bind fun r49 =>
                    bif (!r49) then (
                      some false)
                    else (
                      bif ((decide (at_ < (0 : Int))) || (decide (((r26.2 : Nat) : Int) ≤ at_))) then (
                        gd (r26.2 ≤ o38.length) <|
                        (signetlaw3_flattened_s (o38.take r26.2) (0 : Int) key).bind fun r50 =>
                        some r50.2)
                      else (
                        gd (r26.2 ≤ o38.length) <|
                        (signetlaw3_flattened_s (o38.take r26.2) at_ key).bind fun r51 =>
                        some r51.2)))))))))))
noncomputable def signetlaw3_JsonFinds_G : Nat → Option CQ := tblQ [(14, signetref3_Beyond_w), (23, signetlaw3_lent_w), (24, json_Member_w), (25, json_Kids_w), (26, json_Behind_w), (27, signetlaw3_still_w), (18, signetref3_Shaped_w), (28, signetref3_Kids_w), (29, signetref3_Member_w), (30, signetlaw3_sameInts_w), (31, signetref3_Behind_w), (32, signetref3_Twin_w), (33, signetlaw3_flattened_w)]
theorem signetlaw3_JsonFinds_Gok : ∀ f C, signetlaw3_JsonFinds_G f = some C → ValidQ Tryd.prog f C := tblQ_valid ⟨signetref3_Beyond_ok, signetlaw3_lent_ok, json_Member_ok, json_Kids_ok, json_Behind_ok, signetlaw3_still_ok, signetref3_Shaped_ok, signetref3_Kids_ok, signetref3_Member_ok, signetlaw3_sameInts_ok, signetref3_Behind_ok, signetref3_Twin_ok, signetlaw3_flattened_ok, trivial⟩
def signetlaw3_JsonFinds_d1 := (dQS (dCons (dSl 1 (dVC (dCO (dI .i64)))) (dCons (dSl 2 (dVC (dCO dS))) (dCons (dSl 7 (dVC (dCO (dO 1)))) (dCons (dSl 9 (dVC (dCO (dO 2)))) (dCons (dSl 13 (dVC (dCO (dO 3)))) (dCons (dSl 14 (dVC (dCO (dI .i64)))) dNil)))))) (dCons (dView .node) (dCons (dPart0 4 6) (dCons (dRow .i64 3) (dCons (dRow .i64 3) (dCons (dRow .node 36) dNil))))))
noncomputable def signetlaw3_JsonFinds_l1 : SubQ := fun S R kn kx kr => (Dec.d signetlaw3_JsonFinds_d1 S).bind fun x => (signetlaw3_JsonFinds_p1 x.1.2.2.2.2.2.1 x.2.2.1 x.2.2.2.2.2.1).bind fun r => kn ⟨[(1, [], .c (.o (.val (.int .i64 x.1.1)))), (2, [], .c (.o (.val (.string x.1.2.1)))), (7, [], .c (.o (.own 1))), (9, [], .c (.o (.own 2))), (13, [], .c (.o (.own 3))), (14, [], .c (.o (.val (.int .i64 x.1.2.2.2.2.2.1))))], [], [.view .node x.2.1, .part 4 (0) x.2.2.1 6, .row .i64 3 x.2.2.2.1, .row .i64 3 x.2.2.2.2.1, .row .node 36 r]⟩
def signetlaw3_JsonFinds_d0 := (dQS (dCons (dSl 1 (dVC (dCO (dI .i64)))) (dCons (dSl 2 (dVC (dCO dS))) (dCons (dSl 7 (dVC (dCO (dO 1)))) (dCons (dSl 9 (dVC (dCO (dO 2)))) (dCons (dSl 13 (dVC (dCO (dO 3)))) (dCons (dSl 14 (dVC (dCO (dI .i64)))) dNil)))))) (dCons (dView .node) (dCons (dPart0 4 6) (dCons (dRow .i64 3) (dCons (dRow .i64 3) (dCons (dRow .node 36) dNil))))))
noncomputable def signetlaw3_JsonFinds_l0 : SubQ := fun S R kn kx kr => (Dec.d signetlaw3_JsonFinds_d0 S).bind fun x => (signetlaw3_JsonFinds_p0 x.1.2.2.2.2.2.1 x.2.2.1 x.2.2.2.2.2.1).bind fun r => kx 0 ⟨[(1, [], .c (.o (.val (.int .i64 x.1.1)))), (2, [], .c (.o (.val (.string x.1.2.1)))), (7, [], .c (.o (.own 1))), (9, [], .c (.o (.own 2))), (13, [], .c (.o (.own 3)))], [], [.view .node x.2.1, .part 4 (0) x.2.2.1 6, .row .i64 3 x.2.2.2.1, .row .i64 3 x.2.2.2.2.1, .row .node 36 r]⟩
noncomputable def signetlaw3_JsonFinds_L : Nat → SubQ := tblL [(1, signetlaw3_JsonFinds_l1), (0, signetlaw3_JsonFinds_l0)]
theorem signetlaw3_JsonFinds_p1_eq (at_ : Int) (key : ByteArray) (i : Int) (v : List Eng.Node) (k__n : Nat) (b : List Int) (l : List Int) (h4 : List Eng.Node) (R : Type) (kn : QS → Option R) (kx : Nat → QS → Option R) (kr : QS → Option R) :
    interpQ signetlaw3_JsonFinds_L signetlaw3_JsonFinds_G 1 18 179 signetlaw3_JsonFinds_b1 ⟨[(1, [], .c (.o (.val (.int .i64 at_)))), (2, [], .c (.o (.val (.string key)))), (7, [], .c (.o (.own 1))), (9, [], .c (.o (.own 2))), (13, [], .c (.o (.own 3))), (14, [], .c (.o (.val (.int .i64 i))))], [], [.view .node v, .part 4 (0) k__n 6, .row .i64 3 b, .row .i64 3 l, .row .node 36 h4]⟩ kn kx kr = (signetlaw3_JsonFinds_p1 i k__n h4).bind fun r => kn ⟨[(1, [], .c (.o (.val (.int .i64 at_)))), (2, [], .c (.o (.val (.string key)))), (7, [], .c (.o (.own 1))), (9, [], .c (.o (.own 2))), (13, [], .c (.o (.own 3))), (14, [], .c (.o (.val (.int .i64 i))))], [], [.view .node v, .part 4 (0) k__n 6, .row .i64 3 b, .row .i64 3 l, .row .node 36 r]⟩ := by
  simp only [signetlaw3_JsonFinds_p1, -eq_self, bind_cond, bind_gd, Option.bind_assoc, Option.bind_some, Sum.elim_inl, Sum.elim_inr, bind_elim]
  kernel_rfl
theorem signetlaw3_JsonFinds_sub1 : SubOK signetlaw3_JsonFinds_L signetlaw3_JsonFinds_G 1 18 179 1 signetlaw3_JsonFinds_b1 := sub_ok' signetlaw3_JsonFinds_d1 (fun x R kn kx kr => (signetlaw3_JsonFinds_p1 x.1.2.2.2.2.2.1 x.2.2.1 x.2.2.2.2.2.1).bind fun r => kn ⟨[(1, [], .c (.o (.val (.int .i64 x.1.1)))), (2, [], .c (.o (.val (.string x.1.2.1)))), (7, [], .c (.o (.own 1))), (9, [], .c (.o (.own 2))), (13, [], .c (.o (.own 3))), (14, [], .c (.o (.val (.int .i64 x.1.2.2.2.2.2.1))))], [], [.view .node x.2.1, .part 4 (0) x.2.2.1 6, .row .i64 3 x.2.2.2.1, .row .i64 3 x.2.2.2.2.1, .row .node 36 r]⟩) (by kernel_rfl) fun x R kn kx kr => signetlaw3_JsonFinds_p1_eq x.1.1 x.1.2.1 x.1.2.2.2.2.2.1 x.2.1 x.2.2.1 x.2.2.2.1 x.2.2.2.2.1 x.2.2.2.2.2.1 R kn kx kr
theorem signetlaw3_JsonFinds_p0_eq (at_ : Int) (key : ByteArray) (i : Int) (v : List Eng.Node) (k__n : Nat) (b : List Int) (l : List Int) (h4 : List Eng.Node) (R : Type) (kn : QS → Option R) (kx : Nat → QS → Option R) (kr : QS → Option R) :
    interpQ signetlaw3_JsonFinds_L signetlaw3_JsonFinds_G 1 18 179 signetlaw3_JsonFinds_b0 ⟨[(1, [], .c (.o (.val (.int .i64 at_)))), (2, [], .c (.o (.val (.string key)))), (7, [], .c (.o (.own 1))), (9, [], .c (.o (.own 2))), (13, [], .c (.o (.own 3))), (14, [], .c (.o (.val (.int .i64 i))))], [], [.view .node v, .part 4 (0) k__n 6, .row .i64 3 b, .row .i64 3 l, .row .node 36 h4]⟩ kn kx kr = (signetlaw3_JsonFinds_p0 i k__n h4).bind fun r => kx 0 ⟨[(1, [], .c (.o (.val (.int .i64 at_)))), (2, [], .c (.o (.val (.string key)))), (7, [], .c (.o (.own 1))), (9, [], .c (.o (.own 2))), (13, [], .c (.o (.own 3)))], [], [.view .node v, .part 4 (0) k__n 6, .row .i64 3 b, .row .i64 3 l, .row .node 36 r]⟩ := by
  refine loop_piece (step := fun x => signetlaw3_JsonFinds_p0_step x.1 k__n x.2) (enc := fun x => ⟨[(1, [], .c (.o (.val (.int .i64 at_)))), (2, [], .c (.o (.val (.string key)))), (7, [], .c (.o (.own 1))), (9, [], .c (.o (.own 2))), (13, [], .c (.o (.own 3))), (14, [], .c (.o (.val (.int .i64 x.1))))], [], [.view .node v, .part 4 (0) k__n 6, .row .i64 3 b, .row .i64 3 l, .row .node 36 x.2]⟩) (ko := fun r => kx 0 ⟨[(1, [], .c (.o (.val (.int .i64 at_)))), (2, [], .c (.o (.val (.string key)))), (7, [], .c (.o (.own 1))), (9, [], .c (.o (.own 2))), (13, [], .c (.o (.own 3)))], [], [.view .node v, .part 4 (0) k__n 6, .row .i64 3 b, .row .i64 3 l, .row .node 36 r]⟩) ?_ ?_ (i, h4)
  · intro x; kernel_rfl
  · intro x ki; simp only [signetlaw3_JsonFinds_p0_step, -eq_self, bind_cond, bind_gd, Option.bind_assoc, Option.bind_some, Sum.elim_inl, Sum.elim_inr, bind_elim]; kernel_rfl
theorem signetlaw3_JsonFinds_sub0 : SubOK signetlaw3_JsonFinds_L signetlaw3_JsonFinds_G 1 18 179 0 signetlaw3_JsonFinds_b0 := sub_ok' signetlaw3_JsonFinds_d0 (fun x R kn kx kr => (signetlaw3_JsonFinds_p0 x.1.2.2.2.2.2.1 x.2.2.1 x.2.2.2.2.2.1).bind fun r => kx 0 ⟨[(1, [], .c (.o (.val (.int .i64 x.1.1)))), (2, [], .c (.o (.val (.string x.1.2.1)))), (7, [], .c (.o (.own 1))), (9, [], .c (.o (.own 2))), (13, [], .c (.o (.own 3)))], [], [.view .node x.2.1, .part 4 (0) x.2.2.1 6, .row .i64 3 x.2.2.2.1, .row .i64 3 x.2.2.2.2.1, .row .node 36 r]⟩) (by kernel_rfl) fun x R kn kx kr => signetlaw3_JsonFinds_p0_eq x.1.1 x.1.2.1 x.1.2.2.2.2.2.1 x.2.1 x.2.2.1 x.2.2.2.1 x.2.2.2.2.1 x.2.2.2.2.2.1 R kn kx kr
theorem signetlaw3_JsonFinds_subs : subsOK signetlaw3_JsonFinds_L signetlaw3_JsonFinds_G 1 18 179 signetlaw3_JsonFinds_q := subs_of (show AllSub signetlaw3_JsonFinds_L signetlaw3_JsonFinds_G 1 18 179 [(0, signetlaw3_JsonFinds_b0), (1, signetlaw3_JsonFinds_b1)] from ⟨signetlaw3_JsonFinds_sub0, signetlaw3_JsonFinds_sub1, trivial⟩)
theorem signetlaw3_JsonFinds_eq (v : (List Eng.Node)) (at_ : Int) (key : ByteArray) (R : Type) (k : SV → List SB → Option R) :
    fnQ signetlaw3_JsonFinds_L signetlaw3_JsonFinds_G 18 179 signetlaw3_JsonFinds_q [.tmp 6] [.c (.o (.own 0)), .c (.o (.val (.int .i64 at_))), .c (.o (.val (.string key)))] [.view .node v] k = (signetlaw3_JsonFinds_s v at_ key).bind fun r => k (.c (.o (.val (.bool r)))) [.view .node v] := by
  simp only [signetlaw3_JsonFinds_s, -eq_self, bind_cond, bind_gd, Option.bind_assoc, Option.bind_some, Sum.elim_inl, Sum.elim_inr, bind_elim]
  kernel_rfl
def signetlaw3_JsonFinds_da := (dCons (dVC (dCO (dO 0))) (dCons (dVC (dCO (dI .i64))) (dCons (dVC (dCO dS)) dNil)))
def signetlaw3_JsonFinds_db := (dCons (dView .node) dNil)
noncomputable def signetlaw3_JsonFinds_c : CS := fun args hp R k => (Dec.d signetlaw3_JsonFinds_da args).bind fun x => (Dec.d signetlaw3_JsonFinds_db hp).bind fun y => (signetlaw3_JsonFinds_s y.1 x.2.1 x.2.2.1).bind fun r => k (.c (.o (.val (.bool r)))) [.view .node y.1]
theorem signetlaw3_JsonFinds_val : ValidS Tryd.prog 5 signetlaw3_JsonFinds_c :=
  val_ok signetlaw3_JsonFinds_chk 18 signetlaw3_JsonFinds_Gok signetlaw3_JsonFinds_da signetlaw3_JsonFinds_db 1 (fun x y R k => (signetlaw3_JsonFinds_s y.1 x.2.1 x.2.2.1).bind fun r => k (.c (.o (.val (.bool r)))) [.view .node y.1]) (by kernel_rfl)
    (fun x y R k => by simp only [Option.bind_assoc, Option.bind_some]) (fun x => Nat.le_of_ble_eq_true rfl) (fun y => rfl) signetlaw3_JsonFinds_subs fun x y => signetlaw3_JsonFinds_eq y.1 x.2.1 x.2.2.1 _ _
end Go.Proofs.YtdcoiccdbgcpaaaDoor
