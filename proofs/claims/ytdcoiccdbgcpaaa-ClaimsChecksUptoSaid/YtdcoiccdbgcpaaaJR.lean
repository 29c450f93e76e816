/-
  Functions as the engine reads them (printed by gen.py).
-/
import Derived.Test.YtdcoiccdbgcpaaaEngO
import Derived.Test.YtdcoiccdbgcpaaaProg
import Derived.Test.YtdcoiccdbgcpaaaGC
namespace Go.Proofs.Ytdcoiccdbgcpaaa
open Go.Eng
set_option linter.unusedVariables false
set_option linter.unusedSimpArgs false
set_option maxRecDepth 100000
structure signetref3_Got where
  at_ : Int
  l : (List Eng.Node)
  s : ByteArray
  code : Int
  bad : Int

/-! ### signet/signetref3.Beyond -/
def signetref3_Beyond_b1 : IQ :=
  (.loop [0, 3, 4]
    (.seq
    (.seq
    (.reg 22 none [
      ⟨(some 11), .mv (.t 3), none⟩,
      ⟨(some 12), .len (.t 11), none⟩,
      ⟨(some 13), .bin false .gtr (.t 12) (.v (.int .i64 0)), none⟩,
      ⟨(some 14), .mv (.t 13), none⟩,
      ⟨(some 15), .mv (.t 3), some (14, true)⟩,
      ⟨(some 16), .mv (.t 3), some (14, true)⟩,
      ⟨(some 17), .len (.t 16), some (14, true)⟩,
      ⟨(some 18), .bin false .sub (.t 17) (.v (.int .i64 1)), some (14, true)⟩,
      ⟨(some 19), .iaddr 1 (.t 15) (.t 18), some (14, true)⟩,
      ⟨(some 20), .load none (.t 19), some (14, true)⟩,
      ⟨(some 21), .bin false .leq (.t 20) (.v (.int .i64 0)), some (14, true)⟩,
      ⟨(some 22), .pick (.t 14) (.t 21) (.v (.bool false)), none⟩])
    (.cond (.t 22)
      .skip
      (.canon [] [0, 3, 4] (.exit 2))))
    (.block 3
      (.reg 3 none [
        ⟨(some 23), .mv (.t 3), none⟩,
        ⟨(some 24), .mv (.t 3), none⟩,
        ⟨(some 25), .len (.t 24), none⟩,
        ⟨(some 26), .bin false .sub (.t 25) (.v (.int .i64 1)), none⟩,
        ⟨(some 27), .sub (some 1) (.t 23) none (some (.t 26)), none⟩,
        ⟨(some 3), .mv (.t 27), none⟩]))))
def signetref3_Beyond_b2 : IQ :=
  (.join [] [0, 3, 4]
  (.seq
  (.reg 3 none [
    ⟨(some 43), .mv (.t 3), none⟩,
    ⟨(some 44), .mv (.t 0), none⟩,
    ⟨(some 45), .mv (.t 4), none⟩,
    ⟨(some 46), .iaddr 6 (.t 44) (.t 45), none⟩,
    ⟨(some 47), .faddr 5 (.t 46), none⟩,
    ⟨(some 48), .load none (.t 47), none⟩,
    ⟨(some 49), .bslice 3 1 1 [.int .i64 0] [(0, (.t 48))], none⟩,
    ⟨(some 50), .append 3 1 8 [.int .i64 0] (.t 43) (.t 49), none⟩,
    ⟨(some 3), .mv (.t 50), none⟩])
  (.seq
  (.reg 53 none [
    ⟨(some 51), .mv (.t 3), none⟩,
    ⟨(some 52), .len (.t 51), none⟩,
    ⟨(some 53), .bin false .gtr (.t 52) (.v (.int .i64 65536)), none⟩])
  (.cond (.t 53)
    (.seq
    (.reg 2 none [
      ⟨(some 2), .mv (.v (.bool true)), none⟩])
    (.canon [] [2] .ret))
    .skip))))
def signetref3_Beyond_b0 : IQ :=
  (.loop [0, 3, 4]
    (.seq
    (.seq
    (.reg 8 none [
      ⟨(some 5), .mv (.t 4), none⟩,
      ⟨(some 6), .mv (.t 0), none⟩,
      ⟨(some 7), .len (.t 6), none⟩,
      ⟨(some 8), .bin false .lss (.t 5) (.t 7), none⟩])
    (.cond (.t 8)
      .skip
      (.canon [] [] (.exit 0))))
    (.seq
    (.block 1
      (.seq
      (.block 2
        (.canon [(3, none, .i64, 3)] [0, 3, 4] (.sub 1 signetref3_Beyond_b1)))
      (.seq
      (.seq
      (.reg 30 none [
        ⟨(some 28), .mv (.t 3), none⟩,
        ⟨(some 29), .len (.t 28), none⟩,
        ⟨(some 30), .bin false .gtr (.t 29) (.v (.int .i64 0)), none⟩])
      (.cond (.t 30)
        (.reg 0 none [
          ⟨(some 31), .mv (.t 3), none⟩,
          ⟨(some 32), .mv (.t 3), none⟩,
          ⟨(some 33), .len (.t 32), none⟩,
          ⟨(some 34), .bin false .sub (.t 33) (.v (.int .i64 1)), none⟩,
          ⟨(some 35), .mv (.t 3), none⟩,
          ⟨(some 36), .mv (.t 3), none⟩,
          ⟨(some 37), .len (.t 36), none⟩,
          ⟨(some 38), .bin false .sub (.t 37) (.v (.int .i64 1)), none⟩,
          ⟨(some 39), .iaddr 1 (.t 35) (.t 38), none⟩,
          ⟨(some 40), .load none (.t 39), none⟩,
          ⟨(some 41), .bin false .sub (.t 40) (.v (.int .i64 1)), none⟩,
          ⟨(some 42), .iaddr 1 (.t 31) (.t 34), none⟩,
          ⟨none, .store 1 (.t 42) (.t 41), none⟩])
        .skip))
      (.canon [(3, none, .i64, 3)] [0, 3, 4] (.sub 2 signetref3_Beyond_b2)))))
    (.reg 4 none [
      ⟨(some 9), .mv (.t 4), none⟩,
      ⟨(some 10), .bin false .add (.t 9) (.v (.int .i64 1)), none⟩,
      ⟨(some 4), .mv (.t 10), none⟩]))))
def signetref3_Beyond_q : IQ :=
  (.seq
  (.reg 2 none [
    ⟨(some 2), .mv (.v (.bool false)), none⟩])
  (.seq
  (.reg 3 none [
    ⟨(some 3), .mv (.v (.slice none 0 0)), none⟩])
  (.seq
  (.seq
  (.reg 4 none [
    ⟨(some 4), .mv (.v (.int .i64 0)), none⟩])
  (.block 0
    (.canon [(3, none, .i64, 3)] [0, 3, 4] (.sub 0 signetref3_Beyond_b0))))
  (.seq
  (.reg 2 none [
    ⟨(some 2), .mv (.v (.bool false)), none⟩])
  (.canon [] [2] .ret)))))
theorem signetref3_Beyond_chk : chk Try.prog 4 [] = some (signetref3_Beyond_q.erase, [.tmp 2], 54) := by kernel_rfl
noncomputable def signetref3_Beyond_p1_step (open_ : List Int) : Option (((List Int)) ⊕ ((List Int))) :=
  gd ((decide ((0 : Int) < (open_.length : Int))) = true → InI64 ((open_.length : Int) - (1 : Int))) <|
  gd ((decide ((0 : Int) < (open_.length : Int))) = true → 0 ≤ ((open_.length : Int) - (1 : Int)) ∧ ((open_.length : Int) - (1 : Int)) < open_.length) <|
  gd ((decide ((0 : Int) < (open_.length : Int))) = true → (Int.toNat ((open_.length : Int) - (1 : Int))) < open_.length) <|
  bif ((decide ((0 : Int) < (open_.length : Int))) && (decide ((open_.getD (Int.toNat ((open_.length : Int) - (1 : Int))) (ET.dft .i64)) ≤ (0 : Int)))) then (
    gd (InI64 ((open_.length : Int) - (1 : Int))) <|
    gd (0 ≤ ((open_.length : Int) - (1 : Int)) ∧ ((open_.length : Int) - (1 : Int)) ≤ open_.length) <|
    some (.inl (open_.take (Int.toNat ((open_.length : Int) - (1 : Int))))))
  else (
    some (.inr open_))
noncomputable def signetref3_Beyond_p1 (open_ : List Int) : Option ((List Int)) :=
  whileO (fun x : ((List Int)) => signetref3_Beyond_p1_step x) open_
noncomputable def signetref3_Beyond_p2 (i : Int) (v : List Eng.Node) (open_ : List Int) : Option (Bool ⊕ ((List Int))) :=
  gd (0 ≤ i ∧ i < v.length) <|
  gd ((Int.toNat i) < v.length) <|
  gd ((Int.toNat i) < v.length) <|
  gd (open_.length + ([(v.getD (Int.toNat i) (ET.dft .node)).kids] : List Int).length ≤ 9223372036854775807 ∧ (open_.length + ([(v.getD (Int.toNat i) (ET.dft .node)).kids] : List Int).length) * 8 ≤ 140737488355328) <|
  bif decide ((65536 : Int) < ((open_ ++ [(v.getD (Int.toNat i) (ET.dft .node)).kids]).length : Int)) then (
    some (.inl true))
  else (
    some (.inr (open_ ++ [(v.getD (Int.toNat i) (ET.dft .node)).kids])))
noncomputable def signetref3_Beyond_p0_step (i : Int) (v : List Eng.Node) (open_ : List Int) : Option ((Int × (List Int)) ⊕ (Bool ⊕ Unit)) :=
  bif decide (i < (v.length : Int)) then (
    (signetref3_Beyond_p1 open_).bind fun o8 =>
    bif decide ((0 : Int) < (o8.length : Int)) then (
      gd (InI64 ((o8.length : Int) - (1 : Int))) <|
      gd (InI64 ((o8.length : Int) - (1 : Int))) <|
      gd (0 ≤ ((o8.length : Int) - (1 : Int)) ∧ ((o8.length : Int) - (1 : Int)) < o8.length) <|
      gd ((Int.toNat ((o8.length : Int) - (1 : Int))) < o8.length) <|
      gd (InI64 ((o8.getD (Int.toNat ((o8.length : Int) - (1 : Int))) (ET.dft .i64)) - (1 : Int))) <|
      gd (0 ≤ ((o8.length : Int) - (1 : Int)) ∧ ((o8.length : Int) - (1 : Int)) < o8.length) <|
      gd ((Int.toNat ((o8.length : Int) - (1 : Int))) < o8.length) <|
      (signetref3_Beyond_p2 i v (o8.set (Int.toNat ((o8.length : Int) - (1 : Int))) ((o8.getD (Int.toNat ((o8.length : Int) - (1 : Int))) (ET.dft .i64)) - (1 : Int)))).bind fun o9 => (Sum.elim (fun (o9_0 : Bool) =>
        some (.inr (.inl o9_0))) (fun (o9_1 : (List Int)) =>
        gd (InI64 (i + (1 : Int))) <|
        some (.inl ((i + (1 : Int)), o9_1)))) o9)
    else (
      (signetref3_Beyond_p2 i v o8).bind fun o10 => (Sum.elim (fun (o10_0 : Bool) =>
        some (.inr (.inl o10_0))) (fun (o10_1 : (List Int)) =>
        gd (InI64 (i + (1 : Int))) <|
        some (.inl ((i + (1 : Int)), o10_1)))) o10))
  else (
    some (.inr (.inr ())))
noncomputable def signetref3_Beyond_p0 (i : Int) (v : List Eng.Node) (open_ : List Int) : Option (Bool ⊕ Unit) :=
  whileO (fun x : (Int × (List Int)) => signetref3_Beyond_p0_step x.1 v x.2) (i, open_)
noncomputable def signetref3_Beyond_s (v : (List Eng.Node)) : Option Bool :=
  (signetref3_Beyond_p0 (0 : Int) v []).bind fun o11 => (Sum.elim (fun (o11_0 : Bool) =>
    some o11_0) (fun (o11_1 : Unit) =>
    some false)) o11
noncomputable def signetref3_Beyond_G : Nat → Option CQ := tblQ []
theorem signetref3_Beyond_Gok : ∀ f C, signetref3_Beyond_G f = some C → ValidQ Try.prog f C := fun f C h => by cases h
def signetref3_Beyond_d1 := (dQS (dCons (dSl 0 (dVC (dCO (dO 0)))) (dCons (dSl 3 (dVC (dCO (dO 1)))) (dCons (dSl 4 (dVC (dCO (dI .i64)))) dNil))) (dCons (dView .node) (dCons (dRow .i64 3) dNil)))
noncomputable def signetref3_Beyond_l1 : SubQ := fun S R kn kx kr => (Dec.d signetref3_Beyond_d1 S).bind fun x => (signetref3_Beyond_p1 x.2.2.1).bind fun r => kx 2 ⟨[(0, [], .c (.o (.own 0))), (3, [], .c (.o (.own 1))), (4, [], .c (.o (.val (.int .i64 x.1.2.2.1))))], [], [.view .node x.2.1, .row .i64 3 r]⟩
def signetref3_Beyond_d2 := (dQS (dCons (dSl 0 (dVC (dCO (dO 0)))) (dCons (dSl 3 (dVC (dCO (dO 1)))) (dCons (dSl 4 (dVC (dCO (dI .i64)))) dNil))) (dCons (dView .node) (dCons (dRow .i64 3) dNil)))
noncomputable def signetref3_Beyond_l2 : SubQ := fun S R kn kx kr => (Dec.d signetref3_Beyond_d2 S).bind fun x => (signetref3_Beyond_p2 x.1.2.2.1 x.2.1 x.2.2.1).bind fun r => (Sum.elim (fun (r_0 : Bool) => kr ⟨[(2, [], .c (.o (.val (.bool r_0))))], [], [.view .node x.2.1]⟩) (fun (r_1 : (List Int)) => kn ⟨[(0, [], .c (.o (.own 0))), (3, [], .c (.o (.own 1))), (4, [], .c (.o (.val (.int .i64 x.1.2.2.1))))], [], [.view .node x.2.1, .row .i64 3 r_1]⟩)) r
def signetref3_Beyond_d0 := (dQS (dCons (dSl 0 (dVC (dCO (dO 0)))) (dCons (dSl 3 (dVC (dCO (dO 1)))) (dCons (dSl 4 (dVC (dCO (dI .i64)))) dNil))) (dCons (dView .node) (dCons (dRow .i64 3) dNil)))
noncomputable def signetref3_Beyond_l0 : SubQ := fun S R kn kx kr => (Dec.d signetref3_Beyond_d0 S).bind fun x => (signetref3_Beyond_p0 x.1.2.2.1 x.2.1 x.2.2.1).bind fun r => (Sum.elim (fun (r_0 : Bool) => kr ⟨[(2, [], .c (.o (.val (.bool r_0))))], [], [.view .node x.2.1]⟩) (fun (r_1 : Unit) => kx 0 ⟨[], [], [.view .node x.2.1]⟩)) r
noncomputable def signetref3_Beyond_L : Nat → SubQ := tblL [(1, signetref3_Beyond_l1), (2, signetref3_Beyond_l2), (0, signetref3_Beyond_l0)]
theorem signetref3_Beyond_p1_eq (i : Int) (v : List Eng.Node) (open_ : List Int) (R : Type) (kn : QS → Option R) (kx : Nat → QS → Option R) (kr : QS → Option R) :
    interpQ signetref3_Beyond_L signetref3_Beyond_G 1 5 54 signetref3_Beyond_b1 ⟨[(0, [], .c (.o (.own 0))), (3, [], .c (.o (.own 1))), (4, [], .c (.o (.val (.int .i64 i))))], [], [.view .node v, .row .i64 3 open_]⟩ kn kx kr = (signetref3_Beyond_p1 open_).bind fun r => kx 2 ⟨[(0, [], .c (.o (.own 0))), (3, [], .c (.o (.own 1))), (4, [], .c (.o (.val (.int .i64 i))))], [], [.view .node v, .row .i64 3 r]⟩ := by
  refine loop_piece (step := fun x => signetref3_Beyond_p1_step x) (enc := fun x => ⟨[(0, [], .c (.o (.own 0))), (3, [], .c (.o (.own 1))), (4, [], .c (.o (.val (.int .i64 i))))], [], [.view .node v, .row .i64 3 x]⟩) (ko := fun r => kx 2 ⟨[(0, [], .c (.o (.own 0))), (3, [], .c (.o (.own 1))), (4, [], .c (.o (.val (.int .i64 i))))], [], [.view .node v, .row .i64 3 r]⟩) ?_ ?_ open_
  · intro x; kernel_rfl
  · intro x ki; simp only [signetref3_Beyond_p1_step, -eq_self, bind_cond, bind_gd, Option.bind_assoc, Option.bind_some, Sum.elim_inl, Sum.elim_inr, bind_elim]; kernel_rfl
theorem signetref3_Beyond_sub1 : SubOK signetref3_Beyond_L signetref3_Beyond_G 1 5 54 1 signetref3_Beyond_b1 := sub_ok' signetref3_Beyond_d1 (fun x R kn kx kr => (signetref3_Beyond_p1 x.2.2.1).bind fun r => kx 2 ⟨[(0, [], .c (.o (.own 0))), (3, [], .c (.o (.own 1))), (4, [], .c (.o (.val (.int .i64 x.1.2.2.1))))], [], [.view .node x.2.1, .row .i64 3 r]⟩) (by kernel_rfl) fun x R kn kx kr => signetref3_Beyond_p1_eq x.1.2.2.1 x.2.1 x.2.2.1 R kn kx kr
theorem signetref3_Beyond_p2_eq (i : Int) (v : List Eng.Node) (open_ : List Int) (R : Type) (kn : QS → Option R) (kx : Nat → QS → Option R) (kr : QS → Option R) :
    interpQ signetref3_Beyond_L signetref3_Beyond_G 1 5 54 signetref3_Beyond_b2 ⟨[(0, [], .c (.o (.own 0))), (3, [], .c (.o (.own 1))), (4, [], .c (.o (.val (.int .i64 i))))], [], [.view .node v, .row .i64 3 open_]⟩ kn kx kr = (signetref3_Beyond_p2 i v open_).bind fun r => (Sum.elim (fun (r_0 : Bool) => kr ⟨[(2, [], .c (.o (.val (.bool r_0))))], [], [.view .node v]⟩) (fun (r_1 : (List Int)) => kn ⟨[(0, [], .c (.o (.own 0))), (3, [], .c (.o (.own 1))), (4, [], .c (.o (.val (.int .i64 i))))], [], [.view .node v, .row .i64 3 r_1]⟩)) r := by
  simp only [signetref3_Beyond_p2, -eq_self, bind_cond, bind_gd, Option.bind_assoc, Option.bind_some, Sum.elim_inl, Sum.elim_inr, bind_elim]
  kernel_rfl
theorem signetref3_Beyond_sub2 : SubOK signetref3_Beyond_L signetref3_Beyond_G 1 5 54 2 signetref3_Beyond_b2 := sub_ok' signetref3_Beyond_d2 (fun x R kn kx kr => (signetref3_Beyond_p2 x.1.2.2.1 x.2.1 x.2.2.1).bind fun r => (Sum.elim (fun (r_0 : Bool) => kr ⟨[(2, [], .c (.o (.val (.bool r_0))))], [], [.view .node x.2.1]⟩) (fun (r_1 : (List Int)) => kn ⟨[(0, [], .c (.o (.own 0))), (3, [], .c (.o (.own 1))), (4, [], .c (.o (.val (.int .i64 x.1.2.2.1))))], [], [.view .node x.2.1, .row .i64 3 r_1]⟩)) r) (by kernel_rfl) fun x R kn kx kr => signetref3_Beyond_p2_eq x.1.2.2.1 x.2.1 x.2.2.1 R kn kx kr
theorem signetref3_Beyond_p0_eq (i : Int) (v : List Eng.Node) (open_ : List Int) (R : Type) (kn : QS → Option R) (kx : Nat → QS → Option R) (kr : QS → Option R) :
    interpQ signetref3_Beyond_L signetref3_Beyond_G 1 5 54 signetref3_Beyond_b0 ⟨[(0, [], .c (.o (.own 0))), (3, [], .c (.o (.own 1))), (4, [], .c (.o (.val (.int .i64 i))))], [], [.view .node v, .row .i64 3 open_]⟩ kn kx kr = (signetref3_Beyond_p0 i v open_).bind fun r => (Sum.elim (fun (r_0 : Bool) => kr ⟨[(2, [], .c (.o (.val (.bool r_0))))], [], [.view .node v]⟩) (fun (r_1 : Unit) => kx 0 ⟨[], [], [.view .node v]⟩)) r := by
  refine loop_piece (step := fun x => signetref3_Beyond_p0_step x.1 v x.2) (enc := fun x => ⟨[(0, [], .c (.o (.own 0))), (3, [], .c (.o (.own 1))), (4, [], .c (.o (.val (.int .i64 x.1))))], [], [.view .node v, .row .i64 3 x.2]⟩) (ko := fun r => (Sum.elim (fun (r_0 : Bool) => kr ⟨[(2, [], .c (.o (.val (.bool r_0))))], [], [.view .node v]⟩) (fun (r_1 : Unit) => kx 0 ⟨[], [], [.view .node v]⟩)) r) ?_ ?_ (i, open_)
  · intro x; kernel_rfl
  · intro x ki; simp only [signetref3_Beyond_p0_step, -eq_self, bind_cond, bind_gd, Option.bind_assoc, Option.bind_some, Sum.elim_inl, Sum.elim_inr, bind_elim]; kernel_rfl
theorem signetref3_Beyond_sub0 : SubOK signetref3_Beyond_L signetref3_Beyond_G 1 5 54 0 signetref3_Beyond_b0 := sub_ok' signetref3_Beyond_d0 (fun x R kn kx kr => (signetref3_Beyond_p0 x.1.2.2.1 x.2.1 x.2.2.1).bind fun r => (Sum.elim (fun (r_0 : Bool) => kr ⟨[(2, [], .c (.o (.val (.bool r_0))))], [], [.view .node x.2.1]⟩) (fun (r_1 : Unit) => kx 0 ⟨[], [], [.view .node x.2.1]⟩)) r) (by kernel_rfl) fun x R kn kx kr => signetref3_Beyond_p0_eq x.1.2.2.1 x.2.1 x.2.2.1 R kn kx kr
theorem signetref3_Beyond_subs : subsOK signetref3_Beyond_L signetref3_Beyond_G 1 5 54 signetref3_Beyond_q := subs_of (show AllSub signetref3_Beyond_L signetref3_Beyond_G 1 5 54 [(0, signetref3_Beyond_b0), (1, signetref3_Beyond_b1), (2, signetref3_Beyond_b2)] from ⟨signetref3_Beyond_sub0, signetref3_Beyond_sub1, signetref3_Beyond_sub2, trivial⟩)
theorem signetref3_Beyond_eq (v : (List Eng.Node)) (R : Type) (k : SV → List SB → Option R) :
    fnQ signetref3_Beyond_L signetref3_Beyond_G 5 54 signetref3_Beyond_q [.tmp 2] [.c (.o (.own 0))] [.view .node v] k = (signetref3_Beyond_s v).bind fun r => k (.c (.o (.val (.bool r)))) [.view .node v] := by
  simp only [signetref3_Beyond_s, -eq_self, bind_cond, bind_gd, Option.bind_assoc, Option.bind_some, Sum.elim_inl, Sum.elim_inr, bind_elim]
  kernel_rfl
def signetref3_Beyond_da := (dCons (dVC (dCO (dO 0))) dNil)
def signetref3_Beyond_db := (dCons (dView .node) dNil)
noncomputable def signetref3_Beyond_c : CS := fun args hp R k => (Dec.d signetref3_Beyond_da args).bind fun x => (Dec.d signetref3_Beyond_db hp).bind fun y => (signetref3_Beyond_s y.1).bind fun r => k (.c (.o (.val (.bool r)))) [.view .node y.1]
theorem signetref3_Beyond_val : ValidS Try.prog 4 signetref3_Beyond_c :=
  val_ok signetref3_Beyond_chk 5 signetref3_Beyond_Gok signetref3_Beyond_da signetref3_Beyond_db 1 (fun x y R k => (signetref3_Beyond_s y.1).bind fun r => k (.c (.o (.val (.bool r)))) [.view .node y.1]) (by kernel_rfl)
    (fun x y R k => by simp only [Option.bind_assoc, Option.bind_some]) (fun x => Nat.le_of_ble_eq_true rfl) (fun y => rfl) signetref3_Beyond_subs fun x y => signetref3_Beyond_eq y.1 _ _
noncomputable def signetref3_Beyond_w : CQ := prepQ [(0, none, some (.node, 40))] (liftV [false] signetref3_Beyond_c)
theorem signetref3_Beyond_ok : ValidQ Try.prog 4 signetref3_Beyond_w := prep_quiet signetref3_Beyond_val

/-! ### signet/signetref3.bounds -/
def signetref3_bounds_q : IQ :=
  (.seq
  (.reg 4 none [
    ⟨(some 2), .mv (.v (.int .i64 0)), none⟩,
    ⟨(some 3), .mv (.v (.int .i64 0)), none⟩,
    ⟨(some 4), .mv (.v (.int .i64 0)), none⟩])
  (.seq
  (.block 0
    (.seq
    (.reg 5 none [
      ⟨(some 6), .mv (.t 0), none⟩,
      ⟨(some 7), .bin false .lss (.t 6) (.v (.int .i64 194)), none⟩,
      ⟨(some 8), .mv (.t 7), none⟩,
      ⟨(some 9), .mv (.t 0), some (8, false)⟩,
      ⟨(some 10), .bin false .gtr (.t 9) (.v (.int .i64 244)), some (8, false)⟩,
      ⟨(some 11), .pick (.t 8) (.v (.bool true)) (.t 10), none⟩,
      ⟨(some 5), .mv (.t 11), none⟩])
    (.cond (.t 5)
      (.seq
      (.reg 4 none [
        ⟨(some 2), .mv (.v (.int .i64 (-1))), none⟩,
        ⟨(some 3), .mv (.v (.int .i64 0)), none⟩,
        ⟨(some 4), .mv (.v (.int .i64 0)), none⟩])
      (.canon [] [2, 3, 4] .ret))
      (.seq
      (.reg 12 none [
        ⟨(some 13), .mv (.t 0), none⟩,
        ⟨(some 14), .bin false .lss (.t 13) (.v (.int .i64 224)), none⟩,
        ⟨(some 12), .mv (.t 14), none⟩])
      (.cond (.t 12)
        (.seq
        (.reg 4 none [
          ⟨(some 2), .mv (.v (.int .i64 1)), none⟩,
          ⟨(some 3), .mv (.v (.int .i64 128)), none⟩,
          ⟨(some 4), .mv (.v (.int .i64 191)), none⟩])
        (.canon [] [2, 3, 4] .ret))
        (.seq
        (.reg 15 none [
          ⟨(some 16), .mv (.t 0), none⟩,
          ⟨(some 17), .bin false .eql (.t 16) (.v (.int .i64 224)), none⟩,
          ⟨(some 15), .mv (.t 17), none⟩])
        (.cond (.t 15)
          (.seq
          (.reg 4 none [
            ⟨(some 2), .mv (.v (.int .i64 2)), none⟩,
            ⟨(some 3), .mv (.v (.int .i64 160)), none⟩,
            ⟨(some 4), .mv (.v (.int .i64 191)), none⟩])
          (.canon [] [2, 3, 4] .ret))
          (.seq
          (.reg 18 none [
            ⟨(some 19), .mv (.t 0), none⟩,
            ⟨(some 20), .bin false .eql (.t 19) (.v (.int .i64 237)), none⟩,
            ⟨(some 18), .mv (.t 20), none⟩])
          (.cond (.t 18)
            (.seq
            (.reg 4 none [
              ⟨(some 2), .mv (.v (.int .i64 2)), none⟩,
              ⟨(some 3), .mv (.v (.int .i64 128)), none⟩,
              ⟨(some 4), .mv (.v (.int .i64 159)), none⟩])
            (.canon [] [2, 3, 4] .ret))
            (.seq
            (.reg 21 none [
              ⟨(some 22), .mv (.t 0), none⟩,
              ⟨(some 23), .bin false .lss (.t 22) (.v (.int .i64 240)), none⟩,
              ⟨(some 21), .mv (.t 23), none⟩])
            (.cond (.t 21)
              (.seq
              (.reg 4 none [
                ⟨(some 2), .mv (.v (.int .i64 2)), none⟩,
                ⟨(some 3), .mv (.v (.int .i64 128)), none⟩,
                ⟨(some 4), .mv (.v (.int .i64 191)), none⟩])
              (.canon [] [2, 3, 4] .ret))
              (.seq
              (.reg 24 none [
                ⟨(some 25), .mv (.t 0), none⟩,
                ⟨(some 26), .bin false .eql (.t 25) (.v (.int .i64 240)), none⟩,
                ⟨(some 24), .mv (.t 26), none⟩])
              (.cond (.t 24)
                (.seq
                (.reg 4 none [
                  ⟨(some 2), .mv (.v (.int .i64 3)), none⟩,
                  ⟨(some 3), .mv (.v (.int .i64 144)), none⟩,
                  ⟨(some 4), .mv (.v (.int .i64 191)), none⟩])
                (.canon [] [2, 3, 4] .ret))
                (.seq
                (.reg 27 none [
                  ⟨(some 28), .mv (.t 0), none⟩,
                  ⟨(some 29), .bin false .eql (.t 28) (.v (.int .i64 244)), none⟩,
                  ⟨(some 27), .mv (.t 29), none⟩])
                (.cond (.t 27)
                  (.seq
                  (.reg 4 none [
                    ⟨(some 2), .mv (.v (.int .i64 3)), none⟩,
                    ⟨(some 3), .mv (.v (.int .i64 128)), none⟩,
                    ⟨(some 4), .mv (.v (.int .i64 143)), none⟩])
                  (.canon [] [2, 3, 4] .ret))
                  .skip)))))))))))))))
  (.seq
  (.reg 4 none [
    ⟨(some 2), .mv (.v (.int .i64 3)), none⟩,
    ⟨(some 3), .mv (.v (.int .i64 128)), none⟩,
    ⟨(some 4), .mv (.v (.int .i64 191)), none⟩])
  (.canon [] [2, 3, 4] .ret))))
theorem signetref3_bounds_chk : chk Try.prog 30 [] = some (signetref3_bounds_q.erase, [.tmp 2, .tmp 3, .tmp 4], 30) := by kernel_rfl
noncomputable def signetref3_bounds_s (c : Int) : Option (Int × Int × Int) :=
  bif ((decide (c < (194 : Int))) || (decide ((244 : Int) < c))) then (
    some ((-1 : Int), (0 : Int), (0 : Int)))
  else (
    bif decide (c < (224 : Int)) then (
      some ((1 : Int), (128 : Int), (191 : Int)))
    else (
      bif decide (c = (224 : Int)) then (
        some ((2 : Int), (160 : Int), (191 : Int)))
      else (
        bif decide (c = (237 : Int)) then (
          some ((2 : Int), (128 : Int), (159 : Int)))
        else (
          bif decide (c < (240 : Int)) then (
            some ((2 : Int), (128 : Int), (191 : Int)))
          else (
            bif decide (c = (240 : Int)) then (
              some ((3 : Int), (144 : Int), (191 : Int)))
            else (
              bif decide (c = (244 : Int)) then (
                some ((3 : Int), (128 : Int), (143 : Int)))
              else (
                some ((3 : Int), (128 : Int), (191 : Int)))))))))
noncomputable def signetref3_bounds_G : Nat → Option CQ := tblQ []
theorem signetref3_bounds_Gok : ∀ f C, signetref3_bounds_G f = some C → ValidQ Try.prog f C := fun f C h => by cases h
noncomputable def signetref3_bounds_L : Nat → SubQ := tblL []
theorem signetref3_bounds_subs : subsOK signetref3_bounds_L signetref3_bounds_G 0 5 30 signetref3_bounds_q := subs_of (show AllSub signetref3_bounds_L signetref3_bounds_G 0 5 30 [] from trivial)
theorem signetref3_bounds_eq (c : Int) (R : Type) (k : SV → List SB → Option R) :
    fnQ signetref3_bounds_L signetref3_bounds_G 5 30 signetref3_bounds_q [.tmp 2, .tmp 3, .tmp 4] [.c (.o (.val (.int .i64 c)))] [] k = (signetref3_bounds_s c).bind fun r => k (.tup [.o (.val (.int .i64 r.1)), .o (.val (.int .i64 r.2.1)), .o (.val (.int .i64 r.2.2))]) [] := by
  simp only [signetref3_bounds_s, -eq_self, bind_cond, bind_gd, Option.bind_assoc, Option.bind_some, Sum.elim_inl, Sum.elim_inr, bind_elim]
  kernel_rfl
def signetref3_bounds_da := (dCons (dVC (dCO (dI .i64))) dNil)
def signetref3_bounds_db := (dNil : Dec Unit (List SB))
noncomputable def signetref3_bounds_c : CS := fun args hp R k => (Dec.d signetref3_bounds_da args).bind fun x => (Dec.d signetref3_bounds_db hp).bind fun y => (signetref3_bounds_s x.1).bind fun r => k (.tup [.o (.val (.int .i64 r.1)), .o (.val (.int .i64 r.2.1)), .o (.val (.int .i64 r.2.2))]) []
theorem signetref3_bounds_val : ValidS Try.prog 30 signetref3_bounds_c :=
  val_ok signetref3_bounds_chk 5 signetref3_bounds_Gok signetref3_bounds_da signetref3_bounds_db 0 (fun x y R k => (signetref3_bounds_s x.1).bind fun r => k (.tup [.o (.val (.int .i64 r.1)), .o (.val (.int .i64 r.2.1)), .o (.val (.int .i64 r.2.2))]) []) (by kernel_rfl)
    (fun x y R k => by simp only [Option.bind_assoc, Option.bind_some]) (fun x => Nat.le_of_ble_eq_true rfl) (fun y => rfl) signetref3_bounds_subs fun x y => signetref3_bounds_eq x.1 _ _
noncomputable def signetref3_bounds_w : CQ := liftV [] signetref3_bounds_c
theorem signetref3_bounds_ok : ValidQ Try.prog 30 signetref3_bounds_w := liftV_valid signetref3_bounds_val

/-! ### signet/signetref3.fault -/
def signetref3_fault_q : IQ :=
  (.seq
  (.reg 4 none [
    ⟨(some 4), .alloc 53 [.int .i64 0, .slice none 0 0, .string ⟨#[]⟩, .int .i64 0, .int .i64 0], none⟩])
  (.seq
  (.reg 0 none [
    ⟨(some 5), .mv (.t 0), none⟩,
    ⟨(some 6), .mv (.t 1), none⟩,
    ⟨(some 7), .build [.int .i64 0, .slice none 0 0, .string ⟨#[]⟩, .int .i64 0, .int .i64 0] [(3, 1, (.t 5)), (4, 1, (.t 6))], none⟩,
    ⟨none, .store 5 (.t 4) (.t 7), none⟩])
  (.canon [(4, some 1, .node, 40)] [4] .ret)))
theorem signetref3_fault_chk : chk Try.prog 31 [] = some (signetref3_fault_q.erase, [.cell 4 (some 5)], 8) := by kernel_rfl
noncomputable def signetref3_fault_s (e : Int) (at_ : Int) : Option signetref3_Got :=
  some (⟨(0 : Int), [], (⟨#[]⟩ : ByteArray), e, at_⟩ : signetref3_Got)
noncomputable def signetref3_fault_G : Nat → Option CQ := tblQ []
theorem signetref3_fault_Gok : ∀ f C, signetref3_fault_G f = some C → ValidQ Try.prog f C := fun f C h => by cases h
noncomputable def signetref3_fault_L : Nat → SubQ := tblL []
theorem signetref3_fault_subs : subsOK signetref3_fault_L signetref3_fault_G 0 5 8 signetref3_fault_q := subs_of (show AllSub signetref3_fault_L signetref3_fault_G 0 5 8 [] from trivial)
theorem signetref3_fault_eq (e : Int) (at_ : Int) (R : Type) (k : SV → List SB → Option R) :
    fnQ signetref3_fault_L signetref3_fault_G 5 8 signetref3_fault_q [.cell 4 (some 5)] [.c (.o (.val (.int .i64 e))), .c (.o (.val (.int .i64 at_)))] [] k = (signetref3_fault_s e at_).bind fun r => k (.c (.agg [.val (.int .i64 r.at_), .own 0, .val (.string r.s), .val (.int .i64 r.code), .val (.int .i64 r.bad)])) [.row .node 40 r.l] := by
  simp only [signetref3_fault_s, -eq_self, bind_cond, bind_gd, Option.bind_assoc, Option.bind_some, Sum.elim_inl, Sum.elim_inr, bind_elim]
  kernel_rfl
def signetref3_fault_da := (dCons (dVC (dCO (dI .i64))) (dCons (dVC (dCO (dI .i64))) dNil))
def signetref3_fault_db := (dNil : Dec Unit (List SB))
noncomputable def signetref3_fault_c : CS := fun args hp R k => (Dec.d signetref3_fault_da args).bind fun x => (Dec.d signetref3_fault_db hp).bind fun y => (signetref3_fault_s x.1 x.2.1).bind fun r => k (.c (.agg [.val (.int .i64 r.at_), .own 0, .val (.string r.s), .val (.int .i64 r.code), .val (.int .i64 r.bad)])) [.row .node 40 r.l]
theorem signetref3_fault_val : ValidS Try.prog 31 signetref3_fault_c :=
  val_ok signetref3_fault_chk 5 signetref3_fault_Gok signetref3_fault_da signetref3_fault_db 0 (fun x y R k => (signetref3_fault_s x.1 x.2.1).bind fun r => k (.c (.agg [.val (.int .i64 r.at_), .own 0, .val (.string r.s), .val (.int .i64 r.code), .val (.int .i64 r.bad)])) [.row .node 40 r.l]) (by kernel_rfl)
    (fun x y R k => by simp only [Option.bind_assoc, Option.bind_some]) (fun x => Nat.le_of_ble_eq_true rfl) (fun y => rfl) signetref3_fault_subs fun x y => signetref3_fault_eq x.1 x.2.1 _ _
noncomputable def signetref3_fault_w : CQ := liftQ [] signetref3_fault_c
theorem signetref3_fault_ok : ValidQ Try.prog 31 signetref3_fault_w := liftQ_valid signetref3_fault_val

/-! ### signet/signetref3.byteAt -/
def signetref3_byteAt_q : IQ :=
  (.seq
  (.reg 4 none [
    ⟨(some 4), .mv (.v (.int .i64 0)), none⟩])
  (.seq
  (.seq
  (.reg 8 none [
    ⟨(some 5), .mv (.t 1), none⟩,
    ⟨(some 6), .mv (.t 0), none⟩,
    ⟨(some 7), .lenS (.t 6), none⟩,
    ⟨(some 8), .bin false .geq (.t 5) (.t 7), none⟩])
  (.cond (.t 8)
    (.seq
    (.reg 4 none [
      ⟨(some 4), .mv (.v (.int .i64 (-1))), none⟩])
    (.canon [] [4] .ret))
    .skip))
  (.seq
  (.reg 4 none [
    ⟨(some 9), .mv (.t 0), none⟩,
    ⟨(some 10), .mv (.t 1), none⟩,
    ⟨(some 11), .index (.t 9) (.t 10), none⟩,
    ⟨(some 12), .conv false .i64 (.t 11), none⟩,
    ⟨(some 4), .mv (.t 12), none⟩])
  (.canon [] [4] .ret))))
theorem signetref3_byteAt_chk : chk Try.prog 32 [] = some (signetref3_byteAt_q.erase, [.tmp 4], 13) := by kernel_rfl
noncomputable def signetref3_byteAt_s (t : ByteArray) (at_ : Int) : Option Int :=
  bif decide ((t.size : Int) ≤ at_) then (
    some (-1 : Int))
  else (
    gd (0 ≤ at_ ∧ at_ < t.size) <|
    gd (InI64 (bAt t at_)) <|
    some (bAt t at_))
noncomputable def signetref3_byteAt_G : Nat → Option CQ := tblQ []
theorem signetref3_byteAt_Gok : ∀ f C, signetref3_byteAt_G f = some C → ValidQ Try.prog f C := fun f C h => by cases h
noncomputable def signetref3_byteAt_L : Nat → SubQ := tblL []
theorem signetref3_byteAt_subs : subsOK signetref3_byteAt_L signetref3_byteAt_G 0 5 13 signetref3_byteAt_q := subs_of (show AllSub signetref3_byteAt_L signetref3_byteAt_G 0 5 13 [] from trivial)
theorem signetref3_byteAt_eq (t : ByteArray) (at_ : Int) (R : Type) (k : SV → List SB → Option R) :
    fnQ signetref3_byteAt_L signetref3_byteAt_G 5 13 signetref3_byteAt_q [.tmp 4] [.c (.o (.val (.string t))), .c (.o (.val (.int .i64 at_)))] [] k = (signetref3_byteAt_s t at_).bind fun r => k (.c (.o (.val (.int .i64 r)))) [] := by
  simp only [signetref3_byteAt_s, -eq_self, bind_cond, bind_gd, Option.bind_assoc, Option.bind_some, Sum.elim_inl, Sum.elim_inr, bind_elim]
  kernel_rfl
def signetref3_byteAt_da := (dCons (dVC (dCO dS)) (dCons (dVC (dCO (dI .i64))) dNil))
def signetref3_byteAt_db := (dNil : Dec Unit (List SB))
noncomputable def signetref3_byteAt_c : CS := fun args hp R k => (Dec.d signetref3_byteAt_da args).bind fun x => (Dec.d signetref3_byteAt_db hp).bind fun y => (signetref3_byteAt_s x.1 x.2.1).bind fun r => k (.c (.o (.val (.int .i64 r)))) []
theorem signetref3_byteAt_val : ValidS Try.prog 32 signetref3_byteAt_c :=
  val_ok signetref3_byteAt_chk 5 signetref3_byteAt_Gok signetref3_byteAt_da signetref3_byteAt_db 0 (fun x y R k => (signetref3_byteAt_s x.1 x.2.1).bind fun r => k (.c (.o (.val (.int .i64 r)))) []) (by kernel_rfl)
    (fun x y R k => by simp only [Option.bind_assoc, Option.bind_some]) (fun x => Nat.le_of_ble_eq_true rfl) (fun y => rfl) signetref3_byteAt_subs fun x y => signetref3_byteAt_eq x.1 x.2.1 _ _
noncomputable def signetref3_byteAt_w : CQ := liftV [] signetref3_byteAt_c
theorem signetref3_byteAt_ok : ValidQ Try.prog 32 signetref3_byteAt_w := liftV_valid signetref3_byteAt_val

/-! ### signet/signetref3.sequence -/
def signetref3_sequence_b0 : IQ :=
  (.loop [0, 1, 4, 5, 6, 7, 8]
    (.seq
    (.seq
    (.reg 25 none [
      ⟨(some 23), .mv (.t 8), none⟩,
      ⟨(some 24), .mv (.t 5), none⟩,
      ⟨(some 25), .bin false .leq (.t 23) (.t 24), none⟩])
    (.cond (.t 25)
      .skip
      (.canon [] [0, 1, 4, 5] (.exit 0))))
    (.seq
    (.block 1
      (.seq
      (.reg 9 none [
        ⟨(some 28), .mv (.t 0), none⟩,
        ⟨(some 29), .mv (.t 1), none⟩,
        ⟨(some 30), .mv (.t 8), none⟩,
        ⟨(some 31), .bin false .add (.t 29) (.t 30), none⟩,
        ⟨(some 32), .call 32 [(.t 28), (.t 31)], none⟩,
        ⟨(some 9), .mv (.t 32), none⟩])
      (.seq
      (.seq
      (.reg 34 none [
        ⟨(some 33), .mv (.t 9), none⟩,
        ⟨(some 34), .bin false .lss (.t 33) (.v (.int .i64 0)), none⟩])
      (.cond (.t 34)
        (.seq
        (.reg 0 none [
          ⟨(some 35), .mv (.t 0), none⟩,
          ⟨(some 36), .lenS (.t 35), none⟩,
          ⟨(some 37), .call 31 [(.v (.int .i64 31)), (.t 36)], none⟩,
          ⟨none, .store 5 (.t 4) (.t 37), none⟩])
        (.canon [(4, some 1, .node, 40)] [4] .ret))
        .skip))
      (.seq
      (.seq
      (.reg 45 none [
        ⟨(some 38), .mv (.t 9), none⟩,
        ⟨(some 39), .mv (.t 6), none⟩,
        ⟨(some 40), .bin false .lss (.t 38) (.t 39), none⟩,
        ⟨(some 41), .mv (.t 40), none⟩,
        ⟨(some 42), .mv (.t 9), some (41, false)⟩,
        ⟨(some 43), .mv (.t 7), some (41, false)⟩,
        ⟨(some 44), .bin false .gtr (.t 42) (.t 43), some (41, false)⟩,
        ⟨(some 45), .pick (.t 41) (.v (.bool true)) (.t 44), none⟩])
      (.cond (.t 45)
        (.seq
        (.reg 0 none [
          ⟨(some 46), .mv (.t 1), none⟩,
          ⟨(some 47), .call 31 [(.v (.int .i64 32)), (.t 46)], none⟩,
          ⟨none, .store 5 (.t 4) (.t 47), none⟩])
        (.canon [(4, some 1, .node, 40)] [4] .ret))
        .skip))
      (.seq
      (.reg 6 none [
        ⟨(some 6), .mv (.v (.int .i64 128)), none⟩])
      (.reg 7 none [
        ⟨(some 7), .mv (.v (.int .i64 191)), none⟩]))))))
    (.reg 8 none [
      ⟨(some 26), .mv (.t 8), none⟩,
      ⟨(some 27), .bin false .add (.t 26) (.v (.int .i64 1)), none⟩,
      ⟨(some 8), .mv (.t 27), none⟩]))))
def signetref3_sequence_q : IQ :=
  (.seq
  (.reg 4 none [
    ⟨(some 4), .alloc 53 [.int .i64 0, .slice none 0 0, .string ⟨#[]⟩, .int .i64 0, .int .i64 0], none⟩])
  (.seq
  (.reg 7 none [
    ⟨(some 11), .mv (.t 0), none⟩,
    ⟨(some 12), .mv (.t 1), none⟩,
    ⟨(some 13), .index (.t 11) (.t 12), none⟩,
    ⟨(some 14), .conv false .i64 (.t 13), none⟩,
    ⟨(some 15), .call 30 [(.t 14)], none⟩,
    ⟨(some 10), .mv (.t 15), none⟩,
    ⟨(some 16), .extract (.t 10) 0, none⟩,
    ⟨(some 17), .extract (.t 10) 1, none⟩,
    ⟨(some 18), .extract (.t 10) 2, none⟩,
    ⟨(some 5), .mv (.t 16), none⟩,
    ⟨(some 6), .mv (.t 17), none⟩,
    ⟨(some 7), .mv (.t 18), none⟩])
  (.seq
  (.seq
  (.reg 20 none [
    ⟨(some 19), .mv (.t 5), none⟩,
    ⟨(some 20), .bin false .lss (.t 19) (.v (.int .i64 0)), none⟩])
  (.cond (.t 20)
    (.seq
    (.reg 0 none [
      ⟨(some 21), .mv (.t 1), none⟩,
      ⟨(some 22), .call 31 [(.v (.int .i64 32)), (.t 21)], none⟩,
      ⟨none, .store 5 (.t 4) (.t 22), none⟩])
    (.canon [(4, some 1, .node, 40)] [4] .ret))
    .skip))
  (.seq
  (.seq
  (.reg 8 none [
    ⟨(some 8), .mv (.v (.int .i64 1)), none⟩])
  (.block 0
    (.canon [] [0, 1, 4, 5, 6, 7, 8] (.sub 0 signetref3_sequence_b0))))
  (.seq
  (.reg 0 none [
    ⟨(some 48), .mv (.t 1), none⟩,
    ⟨(some 49), .mv (.t 5), none⟩,
    ⟨(some 50), .bin false .add (.t 48) (.t 49), none⟩,
    ⟨(some 51), .bin false .add (.t 50) (.v (.int .i64 1)), none⟩,
    ⟨(some 52), .mv (.t 0), none⟩,
    ⟨(some 53), .mv (.t 1), none⟩,
    ⟨(some 54), .mv (.t 1), none⟩,
    ⟨(some 55), .mv (.t 5), none⟩,
    ⟨(some 56), .bin false .add (.t 54) (.t 55), none⟩,
    ⟨(some 57), .bin false .add (.t 56) (.v (.int .i64 1)), none⟩,
    ⟨(some 58), .sub none (.t 52) (some (.t 53)) (some (.t 57)), none⟩,
    ⟨(some 59), .build [.int .i64 0, .slice none 0 0, .string ⟨#[]⟩, .int .i64 0, .int .i64 0] [(0, 1, (.t 51)), (2, 1, (.t 58))], none⟩,
    ⟨none, .store 5 (.t 4) (.t 59), none⟩])
  (.canon [(4, some 1, .node, 40)] [4] .ret))))))
theorem signetref3_sequence_chk : chk Try.prog 27 [] = some (signetref3_sequence_q.erase, [.cell 4 (some 5)], 60) := by kernel_rfl
noncomputable def signetref3_sequence_p0_step (t : ByteArray) (at_ : Int) (n : Int) (low : Int) (high : Int) (i : Int) : Option ((Int × Int × Int) ⊕ ((Int × ByteArray × Int × Int × (List Eng.Node)) ⊕ Unit)) :=
  bif decide (i ≤ n) then (
    gd (InI64 (at_ + i)) <|
    (signetref3_byteAt_s t (at_ + i)).bind fun r18 =>
    bif decide (r18 < (0 : Int)) then (
      (signetref3_fault_s (31 : Int) (t.size : Int)).bind fun r19 =>
      some (.inr (.inl (r19.at_, r19.s, r19.code, r19.bad, r19.l))))
    else (
      bif ((decide (r18 < low)) || (decide (high < r18))) then (
        (signetref3_fault_s (32 : Int) at_).bind fun r20 =>
        some (.inr (.inl (r20.at_, r20.s, r20.code, r20.bad, r20.l))))
      else (
        gd (InI64 (i + (1 : Int))) <|
        some (.inl ((128 : Int), (191 : Int), (i + (1 : Int)))))))
  else (
    some (.inr (.inr ())))
noncomputable def signetref3_sequence_p0 (t : ByteArray) (at_ : Int) (n : Int) (low : Int) (high : Int) (i : Int) : Option ((Int × ByteArray × Int × Int × (List Eng.Node)) ⊕ Unit) :=
  whileO (fun x : (Int × Int × Int) => signetref3_sequence_p0_step t at_ n x.1 x.2.1 x.2.2) (low, high, i)
noncomputable def signetref3_sequence_s (t : ByteArray) (at_ : Int) : Option signetref3_Got :=
  gd (0 ≤ at_ ∧ at_ < t.size) <|
  gd (InI64 (bAt t at_)) <|
  (signetref3_bounds_s (bAt t at_)).bind fun r16 =>
  bif decide (r16.1 < (0 : Int)) then (
    (signetref3_fault_s (32 : Int) at_).bind fun r17 =>
    some r17)
  else (
    (signetref3_sequence_p0 t at_ r16.1 r16.2.1 r16.2.2 (1 : Int)).bind fun o21 => (Sum.elim (fun (o21_0 : Int × ByteArray × Int × Int × (List Eng.Node)) =>
      some (⟨o21_0.1, o21_0.2.2.2.2, o21_0.2.1, o21_0.2.2.1, o21_0.2.2.2.1⟩ : signetref3_Got)) (fun (o21_1 : Unit) =>
      gd (InI64 (at_ + r16.1)) <|
      gd (InI64 ((at_ + r16.1) + (1 : Int))) <|
      gd (InI64 (at_ + r16.1)) <|
      gd (InI64 ((at_ + r16.1) + (1 : Int))) <|
      gd (0 ≤ at_ ∧ at_ ≤ ((at_ + r16.1) + (1 : Int)) ∧ ((at_ + r16.1) + (1 : Int)) ≤ t.size) <|
      some (⟨((at_ + r16.1) + (1 : Int)), [], (t.extract (Int.toNat at_) (Int.toNat ((at_ + r16.1) + (1 : Int)))), (0 : Int), (0 : Int)⟩ : signetref3_Got))) o21)
noncomputable def signetref3_sequence_G : Nat → Option CQ := tblQ [(30, signetref3_bounds_w), (31, signetref3_fault_w), (32, signetref3_byteAt_w)]
theorem signetref3_sequence_Gok : ∀ f C, signetref3_sequence_G f = some C → ValidQ Try.prog f C := tblQ_valid ⟨signetref3_bounds_ok, signetref3_fault_ok, signetref3_byteAt_ok, trivial⟩
def signetref3_sequence_d0 := (dQS (dCons (dSl 0 (dVC (dCO dS))) (dCons (dSl 1 (dVC (dCO (dI .i64)))) (dCons (dSl 4 (dVC (dCO (dH 0 0)))) (dCons (dSl 5 (dVC (dCO (dI .i64)))) (dCons (dSl 6 (dVC (dCO (dI .i64)))) (dCons (dSl 7 (dVC (dCO (dI .i64)))) (dCons (dSl 8 (dVC (dCO (dI .i64)))) dNil))))))) (dCons (dCells 53 (dCons (dI .i64) (dCons dNS (dCons dS (dCons (dI .i64) (dCons (dI .i64) dNil)))))) dNil))
noncomputable def signetref3_sequence_l0 : SubQ := fun S R kn kx kr => (Dec.d signetref3_sequence_d0 S).bind fun x => (signetref3_sequence_p0 x.1.1 x.1.2.1 x.1.2.2.2.1 x.1.2.2.2.2.1 x.1.2.2.2.2.2.1 x.1.2.2.2.2.2.2.1).bind fun r => (Sum.elim (fun (r_0 : Int × ByteArray × Int × Int × (List Eng.Node)) => kr ⟨[(4, [], .c (.o (.hd 0 0)))], [], [.cells 53 [.val (.int .i64 r_0.1), .own 1, .val (.string r_0.2.1), .val (.int .i64 r_0.2.2.1), .val (.int .i64 r_0.2.2.2.1)], .row .node 40 r_0.2.2.2.2]⟩) (fun (r_1 : Unit) => kx 0 ⟨[(0, [], .c (.o (.val (.string x.1.1)))), (1, [], .c (.o (.val (.int .i64 x.1.2.1)))), (4, [], .c (.o (.hd 0 0))), (5, [], .c (.o (.val (.int .i64 x.1.2.2.2.1))))], [], [.cells 53 [.val (.int .i64 x.2.1.1), .val (.slice none 0 0), .val (.string x.2.1.2.2.1), .val (.int .i64 x.2.1.2.2.2.1), .val (.int .i64 x.2.1.2.2.2.2.1)]]⟩)) r
noncomputable def signetref3_sequence_L : Nat → SubQ := tblL [(0, signetref3_sequence_l0)]
theorem signetref3_sequence_p0_eq (t : ByteArray) (at_ : Int) (n : Int) (low : Int) (high : Int) (i : Int) (res_At : Int) (res_S : ByteArray) (res_Code : Int) (res_Bad : Int) (R : Type) (kn : QS → Option R) (kx : Nat → QS → Option R) (kr : QS → Option R) :
    interpQ signetref3_sequence_L signetref3_sequence_G 0 10 60 signetref3_sequence_b0 ⟨[(0, [], .c (.o (.val (.string t)))), (1, [], .c (.o (.val (.int .i64 at_)))), (4, [], .c (.o (.hd 0 0))), (5, [], .c (.o (.val (.int .i64 n)))), (6, [], .c (.o (.val (.int .i64 low)))), (7, [], .c (.o (.val (.int .i64 high)))), (8, [], .c (.o (.val (.int .i64 i))))], [], [.cells 53 [.val (.int .i64 res_At), .val (.slice none 0 0), .val (.string res_S), .val (.int .i64 res_Code), .val (.int .i64 res_Bad)]]⟩ kn kx kr = (signetref3_sequence_p0 t at_ n low high i).bind fun r => (Sum.elim (fun (r_0 : Int × ByteArray × Int × Int × (List Eng.Node)) => kr ⟨[(4, [], .c (.o (.hd 0 0)))], [], [.cells 53 [.val (.int .i64 r_0.1), .own 1, .val (.string r_0.2.1), .val (.int .i64 r_0.2.2.1), .val (.int .i64 r_0.2.2.2.1)], .row .node 40 r_0.2.2.2.2]⟩) (fun (r_1 : Unit) => kx 0 ⟨[(0, [], .c (.o (.val (.string t)))), (1, [], .c (.o (.val (.int .i64 at_)))), (4, [], .c (.o (.hd 0 0))), (5, [], .c (.o (.val (.int .i64 n))))], [], [.cells 53 [.val (.int .i64 res_At), .val (.slice none 0 0), .val (.string res_S), .val (.int .i64 res_Code), .val (.int .i64 res_Bad)]]⟩)) r := by
  refine loop_piece (step := fun x => signetref3_sequence_p0_step t at_ n x.1 x.2.1 x.2.2) (enc := fun x => ⟨[(0, [], .c (.o (.val (.string t)))), (1, [], .c (.o (.val (.int .i64 at_)))), (4, [], .c (.o (.hd 0 0))), (5, [], .c (.o (.val (.int .i64 n)))), (6, [], .c (.o (.val (.int .i64 x.1)))), (7, [], .c (.o (.val (.int .i64 x.2.1)))), (8, [], .c (.o (.val (.int .i64 x.2.2))))], [], [.cells 53 [.val (.int .i64 res_At), .val (.slice none 0 0), .val (.string res_S), .val (.int .i64 res_Code), .val (.int .i64 res_Bad)]]⟩) (ko := fun r => (Sum.elim (fun (r_0 : Int × ByteArray × Int × Int × (List Eng.Node)) => kr ⟨[(4, [], .c (.o (.hd 0 0)))], [], [.cells 53 [.val (.int .i64 r_0.1), .own 1, .val (.string r_0.2.1), .val (.int .i64 r_0.2.2.1), .val (.int .i64 r_0.2.2.2.1)], .row .node 40 r_0.2.2.2.2]⟩) (fun (r_1 : Unit) => kx 0 ⟨[(0, [], .c (.o (.val (.string t)))), (1, [], .c (.o (.val (.int .i64 at_)))), (4, [], .c (.o (.hd 0 0))), (5, [], .c (.o (.val (.int .i64 n))))], [], [.cells 53 [.val (.int .i64 res_At), .val (.slice none 0 0), .val (.string res_S), .val (.int .i64 res_Code), .val (.int .i64 res_Bad)]]⟩)) r) ?_ ?_ (low, high, i)
  · intro x; kernel_rfl
  · intro x ki; simp only [signetref3_sequence_p0_step, -eq_self, bind_cond, bind_gd, Option.bind_assoc, Option.bind_some, Sum.elim_inl, Sum.elim_inr, bind_elim]; kernel_rfl
theorem signetref3_sequence_sub0 : SubOK signetref3_sequence_L signetref3_sequence_G 0 10 60 0 signetref3_sequence_b0 := sub_ok' signetref3_sequence_d0 (fun x R kn kx kr => (signetref3_sequence_p0 x.1.1 x.1.2.1 x.1.2.2.2.1 x.1.2.2.2.2.1 x.1.2.2.2.2.2.1 x.1.2.2.2.2.2.2.1).bind fun r => (Sum.elim (fun (r_0 : Int × ByteArray × Int × Int × (List Eng.Node)) => kr ⟨[(4, [], .c (.o (.hd 0 0)))], [], [.cells 53 [.val (.int .i64 r_0.1), .own 1, .val (.string r_0.2.1), .val (.int .i64 r_0.2.2.1), .val (.int .i64 r_0.2.2.2.1)], .row .node 40 r_0.2.2.2.2]⟩) (fun (r_1 : Unit) => kx 0 ⟨[(0, [], .c (.o (.val (.string x.1.1)))), (1, [], .c (.o (.val (.int .i64 x.1.2.1)))), (4, [], .c (.o (.hd 0 0))), (5, [], .c (.o (.val (.int .i64 x.1.2.2.2.1))))], [], [.cells 53 [.val (.int .i64 x.2.1.1), .val (.slice none 0 0), .val (.string x.2.1.2.2.1), .val (.int .i64 x.2.1.2.2.2.1), .val (.int .i64 x.2.1.2.2.2.2.1)]]⟩)) r) (by kernel_rfl) fun x R kn kx kr => signetref3_sequence_p0_eq x.1.1 x.1.2.1 x.1.2.2.2.1 x.1.2.2.2.2.1 x.1.2.2.2.2.2.1 x.1.2.2.2.2.2.2.1 x.2.1.1 x.2.1.2.2.1 x.2.1.2.2.2.1 x.2.1.2.2.2.2.1 R kn kx kr
theorem signetref3_sequence_subs : subsOK signetref3_sequence_L signetref3_sequence_G 0 10 60 signetref3_sequence_q := subs_of (show AllSub signetref3_sequence_L signetref3_sequence_G 0 10 60 [(0, signetref3_sequence_b0)] from ⟨signetref3_sequence_sub0, trivial⟩)
theorem signetref3_sequence_eq (t : ByteArray) (at_ : Int) (R : Type) (k : SV → List SB → Option R) :
    fnQ signetref3_sequence_L signetref3_sequence_G 10 60 signetref3_sequence_q [.cell 4 (some 5)] [.c (.o (.val (.string t))), .c (.o (.val (.int .i64 at_)))] [] k = (signetref3_sequence_s t at_).bind fun r => k (.c (.agg [.val (.int .i64 r.at_), .own 0, .val (.string r.s), .val (.int .i64 r.code), .val (.int .i64 r.bad)])) [.row .node 40 r.l] := by
  simp only [signetref3_sequence_s, -eq_self, bind_cond, bind_gd, Option.bind_assoc, Option.bind_some, Sum.elim_inl, Sum.elim_inr, bind_elim]
  kernel_rfl
def signetref3_sequence_da := (dCons (dVC (dCO dS)) (dCons (dVC (dCO (dI .i64))) dNil))
def signetref3_sequence_db := (dNil : Dec Unit (List SB))
noncomputable def signetref3_sequence_c : CS := fun args hp R k => (Dec.d signetref3_sequence_da args).bind fun x => (Dec.d signetref3_sequence_db hp).bind fun y => (signetref3_sequence_s x.1 x.2.1).bind fun r => k (.c (.agg [.val (.int .i64 r.at_), .own 0, .val (.string r.s), .val (.int .i64 r.code), .val (.int .i64 r.bad)])) [.row .node 40 r.l]
theorem signetref3_sequence_val : ValidS Try.prog 27 signetref3_sequence_c :=
  val_ok signetref3_sequence_chk 10 signetref3_sequence_Gok signetref3_sequence_da signetref3_sequence_db 0 (fun x y R k => (signetref3_sequence_s x.1 x.2.1).bind fun r => k (.c (.agg [.val (.int .i64 r.at_), .own 0, .val (.string r.s), .val (.int .i64 r.code), .val (.int .i64 r.bad)])) [.row .node 40 r.l]) (by kernel_rfl)
    (fun x y R k => by simp only [Option.bind_assoc, Option.bind_some]) (fun x => Nat.le_of_ble_eq_true rfl) (fun y => rfl) signetref3_sequence_subs fun x y => signetref3_sequence_eq x.1 x.2.1 _ _
noncomputable def signetref3_sequence_w : CQ := liftQ [] signetref3_sequence_c
theorem signetref3_sequence_ok : ValidQ Try.prog 27 signetref3_sequence_w := liftQ_valid signetref3_sequence_val

/-! ### signet/signetref3.utf -/
def signetref3_utf_b0 : IQ :=
  (.loop [0, 3]
    (.seq
    (.seq
    (.reg 8 none [
      ⟨(some 5), .mv (.t 3), none⟩,
      ⟨(some 6), .mv (.t 0), none⟩,
      ⟨(some 7), .lenS (.t 6), none⟩,
      ⟨(some 8), .bin false .lss (.t 5) (.t 7), none⟩])
    (.cond (.t 8)
      .skip
      (.canon [] [] (.exit 0))))
    (.block 1
      (.seq
      (.seq
      (.reg 12 none [
        ⟨(some 9), .mv (.t 0), none⟩,
        ⟨(some 10), .mv (.t 3), none⟩,
        ⟨(some 11), .index (.t 9) (.t 10), none⟩,
        ⟨(some 12), .bin false .lss (.t 11) (.v (.int .u8 128)), none⟩])
      (.cond (.t 12)
        (.seq
        (.reg 3 none [
          ⟨(some 13), .mv (.t 3), none⟩,
          ⟨(some 14), .bin false .add (.t 13) (.v (.int .i64 1)), none⟩,
          ⟨(some 3), .mv (.t 14), none⟩])
        (.exit 1))
        .skip))
      (.seq
      (.reg 0 none [
        ⟨(some 15), .mv (.t 0), none⟩,
        ⟨(some 16), .mv (.t 3), none⟩,
        ⟨(some 17), .call 27 [(.t 15), (.t 16)], none⟩,
        ⟨(some 4), .alloc 53 [.int .i64 0, .slice none 0 0, .string ⟨#[]⟩, .int .i64 0, .int .i64 0], none⟩,
        ⟨none, .store 5 (.t 4) (.t 17), none⟩])
      (.seq
      (.seq
      (.reg 20 none [
        ⟨(some 18), .faddr 3 (.t 4), none⟩,
        ⟨(some 19), .load none (.t 18), none⟩,
        ⟨(some 20), .bin false .neq (.t 19) (.v (.int .i64 0)), none⟩])
      (.cond (.t 20)
        (.seq
        (.reg 2 none [
          ⟨(some 2), .mv (.v (.bool false)), none⟩])
        (.canon [] [2] .ret))
        .skip))
      (.reg 3 none [
        ⟨(some 21), .faddr 0 (.t 4), none⟩,
        ⟨(some 22), .load none (.t 21), none⟩,
        ⟨(some 3), .mv (.t 22), none⟩])))))))
def signetref3_utf_q : IQ :=
  (.seq
  (.reg 2 none [
    ⟨(some 2), .mv (.v (.bool false)), none⟩])
  (.seq
  (.reg 3 none [
    ⟨(some 3), .mv (.v (.int .i64 0)), none⟩])
  (.seq
  (.block 0
    (.canon [] [0, 3] (.sub 0 signetref3_utf_b0)))
  (.seq
  (.reg 2 none [
    ⟨(some 2), .mv (.v (.bool true)), none⟩])
  (.canon [] [2] .ret)))))
theorem signetref3_utf_chk : chk Try.prog 22 [] = some (signetref3_utf_q.erase, [.tmp 2], 23) := by kernel_rfl
noncomputable def signetref3_utf_p0_step (s : ByteArray) (at_ : Int) : Option (Int ⊕ (Bool ⊕ Unit)) :=
  bif decide (at_ < (s.size : Int)) then (
    gd (0 ≤ at_ ∧ at_ < s.size) <|
    bif decide ((bAt s at_) < (128 : Int)) then (
      gd (InI64 (at_ + (1 : Int))) <|
      some (.inl (at_ + (1 : Int))))
    else (
      (signetref3_sequence_s s at_).bind fun r1 =>
      bif (!decide (r1.code = (0 : Int))) then (
        some (.inr (.inl false)))
      else (
        some (.inl r1.at_))))
  else (
    some (.inr (.inr ())))
noncomputable def signetref3_utf_p0 (s : ByteArray) (at_ : Int) : Option (Bool ⊕ Unit) :=
  whileO (fun x : Int => signetref3_utf_p0_step s x) at_
noncomputable def signetref3_utf_s (s : ByteArray) : Option Bool :=
  (signetref3_utf_p0 s (0 : Int)).bind fun o2 => (Sum.elim (fun (o2_0 : Bool) =>
    some o2_0) (fun (o2_1 : Unit) =>
    some true)) o2
noncomputable def signetref3_utf_G : Nat → Option CQ := tblQ [(27, signetref3_sequence_w)]
theorem signetref3_utf_Gok : ∀ f C, signetref3_utf_G f = some C → ValidQ Try.prog f C := tblQ_valid ⟨signetref3_sequence_ok, trivial⟩
def signetref3_utf_d0 := (dQS (dCons (dSl 0 (dVC (dCO dS))) (dCons (dSl 3 (dVC (dCO (dI .i64)))) dNil)) dNil)
noncomputable def signetref3_utf_l0 : SubQ := fun S R kn kx kr => (Dec.d signetref3_utf_d0 S).bind fun x => (signetref3_utf_p0 x.1.1 x.1.2.1).bind fun r => (Sum.elim (fun (r_0 : Bool) => kr ⟨[(2, [], .c (.o (.val (.bool r_0))))], [], []⟩) (fun (r_1 : Unit) => kx 0 ⟨[], [], []⟩)) r
noncomputable def signetref3_utf_L : Nat → SubQ := tblL [(0, signetref3_utf_l0)]
theorem signetref3_utf_p0_eq (s : ByteArray) (at_ : Int) (R : Type) (kn : QS → Option R) (kx : Nat → QS → Option R) (kr : QS → Option R) :
    interpQ signetref3_utf_L signetref3_utf_G 0 5 23 signetref3_utf_b0 ⟨[(0, [], .c (.o (.val (.string s)))), (3, [], .c (.o (.val (.int .i64 at_))))], [], []⟩ kn kx kr = (signetref3_utf_p0 s at_).bind fun r => (Sum.elim (fun (r_0 : Bool) => kr ⟨[(2, [], .c (.o (.val (.bool r_0))))], [], []⟩) (fun (r_1 : Unit) => kx 0 ⟨[], [], []⟩)) r := by
  refine loop_piece (step := fun x => signetref3_utf_p0_step s x) (enc := fun x => ⟨[(0, [], .c (.o (.val (.string s)))), (3, [], .c (.o (.val (.int .i64 x))))], [], []⟩) (ko := fun r => (Sum.elim (fun (r_0 : Bool) => kr ⟨[(2, [], .c (.o (.val (.bool r_0))))], [], []⟩) (fun (r_1 : Unit) => kx 0 ⟨[], [], []⟩)) r) ?_ ?_ at_
  · intro x; kernel_rfl
  · intro x ki; simp only [signetref3_utf_p0_step, -eq_self, bind_cond, bind_gd, Option.bind_assoc, Option.bind_some, Sum.elim_inl, Sum.elim_inr, bind_elim]; kernel_rfl
theorem signetref3_utf_sub0 : SubOK signetref3_utf_L signetref3_utf_G 0 5 23 0 signetref3_utf_b0 := sub_ok' signetref3_utf_d0 (fun x R kn kx kr => (signetref3_utf_p0 x.1.1 x.1.2.1).bind fun r => (Sum.elim (fun (r_0 : Bool) => kr ⟨[(2, [], .c (.o (.val (.bool r_0))))], [], []⟩) (fun (r_1 : Unit) => kx 0 ⟨[], [], []⟩)) r) (by kernel_rfl) fun x R kn kx kr => signetref3_utf_p0_eq x.1.1 x.1.2.1 R kn kx kr
theorem signetref3_utf_subs : subsOK signetref3_utf_L signetref3_utf_G 0 5 23 signetref3_utf_q := subs_of (show AllSub signetref3_utf_L signetref3_utf_G 0 5 23 [(0, signetref3_utf_b0)] from ⟨signetref3_utf_sub0, trivial⟩)
theorem signetref3_utf_eq (s : ByteArray) (R : Type) (k : SV → List SB → Option R) :
    fnQ signetref3_utf_L signetref3_utf_G 5 23 signetref3_utf_q [.tmp 2] [.c (.o (.val (.string s)))] [] k = (signetref3_utf_s s).bind fun r => k (.c (.o (.val (.bool r)))) [] := by
  simp only [signetref3_utf_s, -eq_self, bind_cond, bind_gd, Option.bind_assoc, Option.bind_some, Sum.elim_inl, Sum.elim_inr, bind_elim]
  kernel_rfl
def signetref3_utf_da := (dCons (dVC (dCO dS)) dNil)
def signetref3_utf_db := (dNil : Dec Unit (List SB))
noncomputable def signetref3_utf_c : CS := fun args hp R k => (Dec.d signetref3_utf_da args).bind fun x => (Dec.d signetref3_utf_db hp).bind fun y => (signetref3_utf_s x.1).bind fun r => k (.c (.o (.val (.bool r)))) []
theorem signetref3_utf_val : ValidS Try.prog 22 signetref3_utf_c :=
  val_ok signetref3_utf_chk 5 signetref3_utf_Gok signetref3_utf_da signetref3_utf_db 0 (fun x y R k => (signetref3_utf_s x.1).bind fun r => k (.c (.o (.val (.bool r)))) []) (by kernel_rfl)
    (fun x y R k => by simp only [Option.bind_assoc, Option.bind_some]) (fun x => Nat.le_of_ble_eq_true rfl) (fun y => rfl) signetref3_utf_subs fun x y => signetref3_utf_eq x.1 _ _
noncomputable def signetref3_utf_w : CQ := liftV [] signetref3_utf_c
theorem signetref3_utf_ok : ValidQ Try.prog 22 signetref3_utf_w := liftV_valid signetref3_utf_val

/-! ### signet/signetref3.plain -/
def signetref3_plain_q : IQ :=
  (.seq
  (.reg 2 none [
    ⟨(some 1), .box 40 6 (.t 0), none⟩,
    ⟨(some 2), .mv (.v (.bool false)), none⟩])
  (.seq
  (.reg 3 none [
    ⟨(some 8), .faddr 0 (.t 1), none⟩,
    ⟨(some 9), .load none (.t 8), none⟩,
    ⟨(some 3), .mv (.t 9), none⟩])
  (.seq
  (.seq
  (.reg 29 none [
    ⟨(some 10), .mv (.t 3), none⟩,
    ⟨(some 11), .bin false .lss (.t 10) (.v (.int .i64 1)), none⟩,
    ⟨(some 12), .mv (.t 11), none⟩,
    ⟨(some 13), .mv (.t 3), some (12, false)⟩,
    ⟨(some 14), .bin false .gtr (.t 13) (.v (.int .i64 7)), some (12, false)⟩,
    ⟨(some 15), .pick (.t 12) (.v (.bool true)) (.t 14), none⟩,
    ⟨(some 16), .mv (.t 15), none⟩,
    ⟨(some 17), .faddr 5 (.t 1), some (16, false)⟩,
    ⟨(some 18), .load none (.t 17), some (16, false)⟩,
    ⟨(some 19), .bin false .lss (.t 18) (.v (.int .i64 0)), some (16, false)⟩,
    ⟨(some 20), .pick (.t 16) (.v (.bool true)) (.t 19), none⟩,
    ⟨(some 21), .mv (.t 20), none⟩,
    ⟨(some 22), .faddr 5 (.t 1), some (21, false)⟩,
    ⟨(some 23), .load none (.t 22), some (21, false)⟩,
    ⟨(some 24), .bin false .gtr (.t 23) (.v (.int .i64 0)), some (21, false)⟩,
    ⟨(some 25), .mv (.t 24), some (21, false)⟩,
    ⟨(some 26), .mv (.t 3), some (25, true)⟩,
    ⟨(some 27), .bin false .lss (.t 26) (.v (.int .i64 6)), some (25, true)⟩,
    ⟨(some 28), .pick (.t 25) (.t 27) (.v (.bool false)), some (21, false)⟩,
    ⟨(some 29), .pick (.t 21) (.v (.bool true)) (.t 28), none⟩])
  (.cond (.t 29)
    (.seq
    (.reg 2 none [
      ⟨(some 2), .mv (.v (.bool false)), none⟩])
    (.canon [] [2] .ret))
    .skip))
  (.seq
  (.reg 5 none [
    ⟨(some 31), .faddr 2 (.t 1), none⟩,
    ⟨(some 32), .load none (.t 31), none⟩,
    ⟨(some 33), .call 25 [(.t 32)], none⟩,
    ⟨(some 30), .mv (.t 33), none⟩,
    ⟨(some 34), .extract (.t 30) 0, none⟩,
    ⟨(some 35), .extract (.t 30) 1, none⟩,
    ⟨(some 4), .mv (.t 34), none⟩,
    ⟨(some 5), .mv (.t 35), none⟩])
  (.seq
  (.reg 6 none [
    ⟨(some 36), .faddr 2 (.t 1), none⟩,
    ⟨(some 37), .load none (.t 36), none⟩,
    ⟨(some 38), .call 26 [(.t 37)], none⟩,
    ⟨(some 6), .mv (.t 38), none⟩])
  (.seq
  (.reg 7 none [
    ⟨(some 39), .faddr 2 (.t 1), none⟩,
    ⟨(some 40), .load none (.t 39), none⟩,
    ⟨(some 41), .call 22 [(.t 40)], none⟩,
    ⟨(some 7), .mv (.t 41), none⟩])
  (.seq
  (.block 0
    (.seq
    (.reg 42 none [
      ⟨(some 43), .mv (.t 3), none⟩,
      ⟨(some 44), .bin false .eql (.t 43) (.v (.int .i64 4)), none⟩,
      ⟨(some 42), .mv (.t 44), none⟩])
    (.cond (.t 42)
      (.seq
      (.reg 2 none [
        ⟨(some 45), .mv (.t 6), none⟩,
        ⟨(some 46), .mv (.t 45), none⟩,
        ⟨(some 47), .mv (.t 5), some (46, true)⟩,
        ⟨(some 48), .faddr 3 (.t 1), some (46, true)⟩,
        ⟨(some 49), .load none (.t 48), some (46, true)⟩,
        ⟨(some 50), .beq false (.t 47) (.t 49), some (46, true)⟩,
        ⟨(some 51), .pick (.t 46) (.t 50) (.v (.bool false)), none⟩,
        ⟨(some 52), .mv (.t 51), none⟩,
        ⟨(some 53), .mv (.t 4), some (52, true)⟩,
        ⟨(some 54), .faddr 4 (.t 1), some (52, true)⟩,
        ⟨(some 55), .load none (.t 54), some (52, true)⟩,
        ⟨(some 56), .bin false .eql (.t 53) (.t 55), some (52, true)⟩,
        ⟨(some 57), .pick (.t 52) (.t 56) (.v (.bool false)), none⟩,
        ⟨(some 2), .mv (.t 57), none⟩])
      (.canon [] [2] .ret))
      (.seq
      (.reg 58 none [
        ⟨(some 59), .faddr 3 (.t 1), none⟩,
        ⟨(some 60), .load none (.t 59), none⟩,
        ⟨(some 61), .mv (.t 60), none⟩,
        ⟨(some 62), .faddr 4 (.t 1), some (61, false)⟩,
        ⟨(some 63), .load none (.t 62), some (61, false)⟩,
        ⟨(some 64), .bin false .neq (.t 63) (.v (.int .i64 0)), some (61, false)⟩,
        ⟨(some 65), .pick (.t 61) (.v (.bool true)) (.t 64), none⟩,
        ⟨(some 58), .mv (.t 65), none⟩])
      (.cond (.t 58)
        (.seq
        (.reg 2 none [
          ⟨(some 2), .mv (.v (.bool false)), none⟩])
        (.canon [] [2] .ret))
        (.seq
        (.reg 66 none [
          ⟨(some 67), .mv (.t 3), none⟩,
          ⟨(some 68), .bin false .eql (.t 67) (.v (.int .i64 5)), none⟩,
          ⟨(some 66), .mv (.t 68), none⟩])
        (.cond (.t 66)
          (.seq
          (.reg 2 none [
            ⟨(some 69), .mv (.t 7), none⟩,
            ⟨(some 2), .mv (.t 69), none⟩])
          (.canon [] [2] .ret))
          .skip)))))))
  (.seq
  (.reg 2 none [
    ⟨(some 70), .faddr 2 (.t 1), none⟩,
    ⟨(some 71), .load none (.t 70), none⟩,
    ⟨(some 72), .bin false .eql (.t 71) (.v (.string ⟨#[]⟩)), none⟩,
    ⟨(some 2), .mv (.t 72), none⟩])
  (.canon [] [2] .ret)))))))))
theorem signetref3_plain_chk : chk Try.prog 21 [] = some (signetref3_plain_q.erase, [.tmp 2], 73) := by kernel_rfl
noncomputable def signetref3_plain_s (n : Eng.Node) : Option Bool :=
  bif ((((decide (n.kind < (1 : Int))) || (decide ((7 : Int) < n.kind))) || (decide (n.kids < (0 : Int)))) || ((decide ((0 : Int) < n.kids)) && (decide (n.kind < (6 : Int))))) then (
    some false)
  else (
    (signetref2_Whole_s n.text).bind fun r1 =>
    (signetref2_Valid_s n.text).bind fun r2 =>
    (signetref3_utf_s n.text).bind fun r3 =>
    bif decide (n.kind = (4 : Int)) then (
      some ((r2 && (r1.2 == n.whole)) && (decide (r1.1 = n.int))))
    else (
      bif (n.whole || (!decide (n.int = (0 : Int)))) then (
        some false)
      else (
        bif decide (n.kind = (5 : Int)) then (
          some r3)
        else (
          some (decide (n.text = (⟨#[]⟩ : ByteArray)))))))
noncomputable def signetref3_plain_G : Nat → Option CQ := tblQ [(25, signetref2_Whole_w), (26, signetref2_Valid_w), (22, signetref3_utf_w)]
theorem signetref3_plain_Gok : ∀ f C, signetref3_plain_G f = some C → ValidQ Try.prog f C := tblQ_valid ⟨signetref2_Whole_ok, signetref2_Valid_ok, signetref3_utf_ok, trivial⟩
noncomputable def signetref3_plain_L : Nat → SubQ := tblL []
theorem signetref3_plain_subs : subsOK signetref3_plain_L signetref3_plain_G 0 8 73 signetref3_plain_q := subs_of (show AllSub signetref3_plain_L signetref3_plain_G 0 8 73 [] from trivial)
theorem signetref3_plain_eq (n : Eng.Node) (R : Type) (k : SV → List SB → Option R) :
    fnQ signetref3_plain_L signetref3_plain_G 8 73 signetref3_plain_q [.tmp 2] [.c (.agg [.val (.int .i64 n.kind), .val (.string n.key), .val (.string n.text), .val (.bool n.whole), .val (.int .i64 n.int), .val (.int .i64 n.kids)])] [] k = (signetref3_plain_s n).bind fun r => k (.c (.o (.val (.bool r)))) [] := by
  simp only [signetref3_plain_s, -eq_self, bind_cond, bind_gd, Option.bind_assoc, Option.bind_some, Sum.elim_inl, Sum.elim_inr, bind_elim]
  kernel_rfl
def signetref3_plain_da := (dCons (dVC (dCA (dCons (dI .i64) (dCons dS (dCons dS (dCons dB (dCons (dI .i64) (dCons (dI .i64) dNil)))))))) dNil)
def signetref3_plain_db := (dNil : Dec Unit (List SB))
noncomputable def signetref3_plain_c : CS := fun args hp R k => (Dec.d signetref3_plain_da args).bind fun x => (Dec.d signetref3_plain_db hp).bind fun y => (signetref3_plain_s (⟨x.1.1, x.1.2.1, x.1.2.2.1, x.1.2.2.2.1, x.1.2.2.2.2.1, x.1.2.2.2.2.2.1⟩ : Eng.Node)).bind fun r => k (.c (.o (.val (.bool r)))) []
theorem signetref3_plain_val : ValidS Try.prog 21 signetref3_plain_c :=
  val_ok signetref3_plain_chk 8 signetref3_plain_Gok signetref3_plain_da signetref3_plain_db 0 (fun x y R k => (signetref3_plain_s (⟨x.1.1, x.1.2.1, x.1.2.2.1, x.1.2.2.2.1, x.1.2.2.2.2.1, x.1.2.2.2.2.2.1⟩ : Eng.Node)).bind fun r => k (.c (.o (.val (.bool r)))) []) (by kernel_rfl)
    (fun x y R k => by simp only [Option.bind_assoc, Option.bind_some]) (fun x => Nat.le_of_ble_eq_true rfl) (fun y => rfl) signetref3_plain_subs fun x y => signetref3_plain_eq (⟨x.1.1, x.1.2.1, x.1.2.2.1, x.1.2.2.2.1, x.1.2.2.2.2.1, x.1.2.2.2.2.2.1⟩ : Eng.Node) _ _
noncomputable def signetref3_plain_w : CQ := liftV [] signetref3_plain_c
theorem signetref3_plain_ok : ValidQ Try.prog 21 signetref3_plain_w := liftV_valid signetref3_plain_val

/-! ### signet/signetref3.among -/
def signetref3_among_b0 : IQ :=
  (.loop [0, 1, 5]
    (.seq
    (.seq
    (.reg 9 none [
      ⟨(some 6), .mv (.t 5), none⟩,
      ⟨(some 7), .mv (.t 0), none⟩,
      ⟨(some 8), .len (.t 7), none⟩,
      ⟨(some 9), .bin false .lss (.t 6) (.t 8), none⟩])
    (.cond (.t 9)
      .skip
      (.canon [] [] (.exit 0))))
    (.seq
    (.block 1
      (.seq
      (.reg 17 none [
        ⟨(some 12), .mv (.t 0), none⟩,
        ⟨(some 13), .mv (.t 5), none⟩,
        ⟨(some 14), .iaddr 1 (.t 12) (.t 13), none⟩,
        ⟨(some 15), .load none (.t 14), none⟩,
        ⟨(some 16), .mv (.t 1), none⟩,
        ⟨(some 17), .bin false .eql (.t 15) (.t 16), none⟩])
      (.cond (.t 17)
        (.seq
        (.reg 4 none [
          ⟨(some 4), .mv (.v (.bool true)), none⟩])
        (.canon [] [4] .ret))
        .skip)))
    (.reg 5 none [
      ⟨(some 10), .mv (.t 5), none⟩,
      ⟨(some 11), .bin false .add (.t 10) (.v (.int .i64 1)), none⟩,
      ⟨(some 5), .mv (.t 11), none⟩]))))
def signetref3_among_q : IQ :=
  (.seq
  (.reg 4 none [
    ⟨(some 4), .mv (.v (.bool false)), none⟩])
  (.seq
  (.seq
  (.reg 5 none [
    ⟨(some 5), .mv (.v (.int .i64 0)), none⟩])
  (.block 0
    (.canon [] [0, 1, 5] (.sub 0 signetref3_among_b0))))
  (.seq
  (.reg 4 none [
    ⟨(some 4), .mv (.v (.bool false)), none⟩])
  (.canon [] [4] .ret))))
theorem signetref3_among_chk : chk Try.prog 23 [] = some (signetref3_among_q.erase, [.tmp 4], 18) := by kernel_rfl
noncomputable def signetref3_among_p0_step (s : ByteArray) (i : Int) (l : List ByteArray) : Option (Int ⊕ (Bool ⊕ Unit)) :=
  bif decide (i < (l.length : Int)) then (
    gd (0 ≤ i ∧ i < l.length) <|
    gd ((Int.toNat i) < l.length) <|
    bif decide ((l.getD (Int.toNat i) (ET.dft .str)) = s) then (
      some (.inr (.inl true)))
    else (
      gd (InI64 (i + (1 : Int))) <|
      some (.inl (i + (1 : Int)))))
  else (
    some (.inr (.inr ())))
noncomputable def signetref3_among_p0 (s : ByteArray) (i : Int) (l : List ByteArray) : Option (Bool ⊕ Unit) :=
  whileO (fun x : Int => signetref3_among_p0_step s x l) i
noncomputable def signetref3_among_s (l : (List ByteArray)) (s : ByteArray) : Option Bool :=
  (signetref3_among_p0 s (0 : Int) l).bind fun o1 => (Sum.elim (fun (o1_0 : Bool) =>
    some o1_0) (fun (o1_1 : Unit) =>
    some false)) o1
noncomputable def signetref3_among_G : Nat → Option CQ := tblQ []
theorem signetref3_among_Gok : ∀ f C, signetref3_among_G f = some C → ValidQ Try.prog f C := fun f C h => by cases h
def signetref3_among_d0 := (dQS (dCons (dSl 0 (dVC (dCO (dO 0)))) (dCons (dSl 1 (dVC (dCO dS))) (dCons (dSl 5 (dVC (dCO (dI .i64)))) dNil))) (dCons (dView .str) dNil))
noncomputable def signetref3_among_l0 : SubQ := fun S R kn kx kr => (Dec.d signetref3_among_d0 S).bind fun x => (signetref3_among_p0 x.1.2.1 x.1.2.2.1 x.2.1).bind fun r => (Sum.elim (fun (r_0 : Bool) => kr ⟨[(4, [], .c (.o (.val (.bool r_0))))], [], [.view .str x.2.1]⟩) (fun (r_1 : Unit) => kx 0 ⟨[], [], [.view .str x.2.1]⟩)) r
noncomputable def signetref3_among_L : Nat → SubQ := tblL [(0, signetref3_among_l0)]
theorem signetref3_among_p0_eq (s : ByteArray) (i : Int) (l : List ByteArray) (R : Type) (kn : QS → Option R) (kx : Nat → QS → Option R) (kr : QS → Option R) :
    interpQ signetref3_among_L signetref3_among_G 1 6 18 signetref3_among_b0 ⟨[(0, [], .c (.o (.own 0))), (1, [], .c (.o (.val (.string s)))), (5, [], .c (.o (.val (.int .i64 i))))], [], [.view .str l]⟩ kn kx kr = (signetref3_among_p0 s i l).bind fun r => (Sum.elim (fun (r_0 : Bool) => kr ⟨[(4, [], .c (.o (.val (.bool r_0))))], [], [.view .str l]⟩) (fun (r_1 : Unit) => kx 0 ⟨[], [], [.view .str l]⟩)) r := by
  refine loop_piece (step := fun x => signetref3_among_p0_step s x l) (enc := fun x => ⟨[(0, [], .c (.o (.own 0))), (1, [], .c (.o (.val (.string s)))), (5, [], .c (.o (.val (.int .i64 x))))], [], [.view .str l]⟩) (ko := fun r => (Sum.elim (fun (r_0 : Bool) => kr ⟨[(4, [], .c (.o (.val (.bool r_0))))], [], [.view .str l]⟩) (fun (r_1 : Unit) => kx 0 ⟨[], [], [.view .str l]⟩)) r) ?_ ?_ i
  · intro x; kernel_rfl
  · intro x ki; simp only [signetref3_among_p0_step, -eq_self, bind_cond, bind_gd, Option.bind_assoc, Option.bind_some, Sum.elim_inl, Sum.elim_inr, bind_elim]; kernel_rfl
theorem signetref3_among_sub0 : SubOK signetref3_among_L signetref3_among_G 1 6 18 0 signetref3_among_b0 := sub_ok' signetref3_among_d0 (fun x R kn kx kr => (signetref3_among_p0 x.1.2.1 x.1.2.2.1 x.2.1).bind fun r => (Sum.elim (fun (r_0 : Bool) => kr ⟨[(4, [], .c (.o (.val (.bool r_0))))], [], [.view .str x.2.1]⟩) (fun (r_1 : Unit) => kx 0 ⟨[], [], [.view .str x.2.1]⟩)) r) (by kernel_rfl) fun x R kn kx kr => signetref3_among_p0_eq x.1.2.1 x.1.2.2.1 x.2.1 R kn kx kr
theorem signetref3_among_subs : subsOK signetref3_among_L signetref3_among_G 1 6 18 signetref3_among_q := subs_of (show AllSub signetref3_among_L signetref3_among_G 1 6 18 [(0, signetref3_among_b0)] from ⟨signetref3_among_sub0, trivial⟩)
theorem signetref3_among_eq (l : (List ByteArray)) (s : ByteArray) (R : Type) (k : SV → List SB → Option R) :
    fnQ signetref3_among_L signetref3_among_G 6 18 signetref3_among_q [.tmp 4] [.c (.o (.own 0)), .c (.o (.val (.string s)))] [.view .str l] k = (signetref3_among_s l s).bind fun r => k (.c (.o (.val (.bool r)))) [.view .str l] := by
  simp only [signetref3_among_s, -eq_self, bind_cond, bind_gd, Option.bind_assoc, Option.bind_some, Sum.elim_inl, Sum.elim_inr, bind_elim]
  kernel_rfl
def signetref3_among_da := (dCons (dVC (dCO (dO 0))) (dCons (dVC (dCO dS)) dNil))
def signetref3_among_db := (dCons (dView .str) dNil)
noncomputable def signetref3_among_c : CS := fun args hp R k => (Dec.d signetref3_among_da args).bind fun x => (Dec.d signetref3_among_db hp).bind fun y => (signetref3_among_s y.1 x.2.1).bind fun r => k (.c (.o (.val (.bool r)))) [.view .str y.1]
theorem signetref3_among_val : ValidS Try.prog 23 signetref3_among_c :=
  val_ok signetref3_among_chk 6 signetref3_among_Gok signetref3_among_da signetref3_among_db 1 (fun x y R k => (signetref3_among_s y.1 x.2.1).bind fun r => k (.c (.o (.val (.bool r)))) [.view .str y.1]) (by kernel_rfl)
    (fun x y R k => by simp only [Option.bind_assoc, Option.bind_some]) (fun x => Nat.le_of_ble_eq_true rfl) (fun y => rfl) signetref3_among_subs fun x y => signetref3_among_eq y.1 x.2.1 _ _
noncomputable def signetref3_among_w : CQ := prepQ [(0, none, some (.str, 9))] (liftV [false] signetref3_among_c)
theorem signetref3_among_ok : ValidQ Try.prog 23 signetref3_among_w := prep_quiet signetref3_among_val

/-! ### a group that calls itself: signet/signetref3.take -/
def signetref3_take_da := (dCons (dVC (dCO (dO 0))) (dCons (dVC (dCO (dI .i64))) (dCons (dVC (dCO dB)) (dCons (dVC (dCO (dI .i64))) dNil))))
def signetref3_take_db := (dCons (dView .node) dNil)
noncomputable def signetref3_take_cs (self : (List Eng.Node) → Int → Bool → Int → Option Int) : CS := fun args hp R k => (Dec.d signetref3_take_da args).bind fun x => (Dec.d signetref3_take_db hp).bind fun y => (self y.1 x.2.1 x.2.2.1 x.2.2.2.1).bind fun r => k (.c (.o (.val (.int .i64 r)))) [.view .node y.1]
noncomputable def signetref3_take_ws (self : (List Eng.Node) → Int → Bool → Int → Option Int) : CQ := prepQ [(0, none, some (.node, 40))] (liftV [false] (signetref3_take_cs self))

/-! ### signet/signetref3.take -/
def signetref3_take_b0 : IQ :=
  (.loop [0, 3, 9, 12, 13, 14]
    (.seq
    (.seq
    (.reg 58 none [
      ⟨(some 55), .mv (.t 14), none⟩,
      ⟨(some 56), .faddr 5 (.t 9), none⟩,
      ⟨(some 57), .load none (.t 56), none⟩,
      ⟨(some 58), .bin false .lss (.t 55) (.t 57), none⟩])
    (.cond (.t 58)
      .skip
      (.canon [] [12] (.exit 0))))
    (.seq
    (.block 1
      (.seq
      (.reg 15 none [
        ⟨(some 61), .mv (.t 12), none⟩,
        ⟨(some 15), .mv (.t 61), none⟩])
      (.seq
      (.reg 12 none [
        ⟨(some 62), .mv (.t 0), none⟩,
        ⟨(some 63), .mv (.t 15), none⟩,
        ⟨(some 64), .faddr 0 (.t 9), none⟩,
        ⟨(some 65), .load none (.t 64), none⟩,
        ⟨(some 66), .bin false .eql (.t 65) (.v (.int .i64 7)), none⟩,
        ⟨(some 67), .mv (.t 3), none⟩,
        ⟨(some 68), .bin false .add (.t 67) (.v (.int .i64 1)), none⟩,
        ⟨(some 69), .call 15 [(.t 62), (.t 63), (.t 66), (.t 68)], none⟩,
        ⟨(some 12), .mv (.t 69), none⟩])
      (.seq
      (.seq
      (.reg 85 none [
        ⟨(some 70), .mv (.t 12), none⟩,
        ⟨(some 71), .bin false .lss (.t 70) (.v (.int .i64 0)), none⟩,
        ⟨(some 72), .mv (.t 71), none⟩,
        ⟨(some 73), .faddr 0 (.t 9), some (72, false)⟩,
        ⟨(some 74), .load none (.t 73), some (72, false)⟩,
        ⟨(some 75), .bin false .eql (.t 74) (.v (.int .i64 7)), some (72, false)⟩,
        ⟨(some 76), .mv (.t 75), some (72, false)⟩,
        ⟨(some 77), .mv (.t 13), some (76, true)⟩,
        ⟨(some 78), .mv (.t 0), some (76, true)⟩,
        ⟨(some 79), .mv (.t 15), some (76, true)⟩,
        ⟨(some 80), .iaddr 6 (.t 78) (.t 79), some (76, true)⟩,
        ⟨(some 81), .faddr 1 (.t 80), some (76, true)⟩,
        ⟨(some 82), .load none (.t 81), some (76, true)⟩,
        ⟨(some 83), .call 23 [(.t 77), (.t 82)], some (76, true)⟩,
        ⟨(some 84), .pick (.t 76) (.t 83) (.v (.bool false)), some (72, false)⟩,
        ⟨(some 85), .pick (.t 72) (.v (.bool true)) (.t 84), none⟩])
      (.cond (.t 85)
        (.seq
        (.reg 8 none [
          ⟨(some 8), .mv (.v (.int .i64 (-1))), none⟩])
        (.canon [] [8] .ret))
        .skip))
      (.reg 13 none [
        ⟨(some 86), .mv (.t 13), none⟩,
        ⟨(some 87), .mv (.t 0), none⟩,
        ⟨(some 88), .mv (.t 15), none⟩,
        ⟨(some 89), .iaddr 6 (.t 87) (.t 88), none⟩,
        ⟨(some 90), .faddr 1 (.t 89), none⟩,
        ⟨(some 91), .load none (.t 90), none⟩,
        ⟨(some 92), .bslice 9 1 1 [.string ⟨#[]⟩] [(0, (.t 91))], none⟩,
        ⟨(some 93), .append 9 1 16 [.string ⟨#[]⟩] (.t 86) (.t 92), none⟩,
        ⟨(some 13), .mv (.t 93), none⟩])))))
    (.reg 14 none [
      ⟨(some 59), .mv (.t 14), none⟩,
      ⟨(some 60), .bin false .add (.t 59) (.v (.int .i64 1)), none⟩,
      ⟨(some 14), .mv (.t 60), none⟩]))))
def signetref3_take_q : IQ :=
  (.seq
  (.reg 8 none [
    ⟨(some 8), .mv (.v (.int .i64 0)), none⟩])
  (.seq
  (.seq
  (.reg 19 none [
    ⟨(some 16), .mv (.t 1), none⟩,
    ⟨(some 17), .mv (.t 0), none⟩,
    ⟨(some 18), .len (.t 17), none⟩,
    ⟨(some 19), .bin false .geq (.t 16) (.t 18), none⟩])
  (.cond (.t 19)
    (.seq
    (.reg 8 none [
      ⟨(some 8), .mv (.v (.int .i64 (-1))), none⟩])
    (.canon [] [8] .ret))
    .skip))
  (.seq
  (.reg 0 none [
    ⟨(some 20), .mv (.t 0), none⟩,
    ⟨(some 21), .mv (.t 1), none⟩,
    ⟨(some 22), .iaddr 6 (.t 20) (.t 21), none⟩,
    ⟨(some 23), .load (some 6) (.t 22), none⟩,
    ⟨(some 9), .alloc 40 [.int .i64 0, .string ⟨#[]⟩, .string ⟨#[]⟩, .bool false, .int .i64 0, .int .i64 0], none⟩,
    ⟨none, .store 6 (.t 9) (.t 23), none⟩])
  (.seq
  (.reg 10 none [
    ⟨(some 24), .load (some 6) (.t 9), none⟩,
    ⟨(some 25), .call 21 [(.t 24)], none⟩,
    ⟨(some 10), .mv (.t 25), none⟩])
  (.seq
  (.reg 11 none [
    ⟨(some 26), .faddr 1 (.t 9), none⟩,
    ⟨(some 27), .load none (.t 26), none⟩,
    ⟨(some 28), .call 22 [(.t 27)], none⟩,
    ⟨(some 11), .mv (.t 28), none⟩])
  (.seq
  (.seq
  (.reg 52 none [
    ⟨(some 29), .mv (.t 10), none⟩,
    ⟨(some 30), .un .not (.t 29), none⟩,
    ⟨(some 31), .mv (.t 30), none⟩,
    ⟨(some 32), .mv (.t 11), some (31, false)⟩,
    ⟨(some 33), .un .not (.t 32), some (31, false)⟩,
    ⟨(some 34), .pick (.t 31) (.v (.bool true)) (.t 33), none⟩,
    ⟨(some 35), .mv (.t 34), none⟩,
    ⟨(some 36), .mv (.t 2), some (35, false)⟩,
    ⟨(some 37), .un .not (.t 36), some (35, false)⟩,
    ⟨(some 38), .mv (.t 37), some (35, false)⟩,
    ⟨(some 39), .faddr 1 (.t 9), some (38, true)⟩,
    ⟨(some 40), .load none (.t 39), some (38, true)⟩,
    ⟨(some 41), .bin false .neq (.t 40) (.v (.string ⟨#[]⟩)), some (38, true)⟩,
    ⟨(some 42), .pick (.t 38) (.t 41) (.v (.bool false)), some (35, false)⟩,
    ⟨(some 43), .pick (.t 35) (.v (.bool true)) (.t 42), none⟩,
    ⟨(some 44), .mv (.t 43), none⟩,
    ⟨(some 45), .faddr 0 (.t 9), some (44, false)⟩,
    ⟨(some 46), .load none (.t 45), some (44, false)⟩,
    ⟨(some 47), .bin false .geq (.t 46) (.v (.int .i64 6)), some (44, false)⟩,
    ⟨(some 48), .mv (.t 47), some (44, false)⟩,
    ⟨(some 49), .mv (.t 3), some (48, true)⟩,
    ⟨(some 50), .bin false .eql (.t 49) (.v (.int .i64 32)), some (48, true)⟩,
    ⟨(some 51), .pick (.t 48) (.t 50) (.v (.bool false)), some (44, false)⟩,
    ⟨(some 52), .pick (.t 44) (.v (.bool true)) (.t 51), none⟩])
  (.cond (.t 52)
    (.seq
    (.reg 8 none [
      ⟨(some 8), .mv (.v (.int .i64 (-1))), none⟩])
    (.canon [] [8] .ret))
    .skip))
  (.seq
  (.reg 12 none [
    ⟨(some 53), .mv (.t 1), none⟩,
    ⟨(some 54), .bin false .add (.t 53) (.v (.int .i64 1)), none⟩,
    ⟨(some 12), .mv (.t 54), none⟩])
  (.seq
  (.reg 13 none [
    ⟨(some 13), .mv (.v (.slice none 0 0)), none⟩])
  (.seq
  (.seq
  (.reg 14 none [
    ⟨(some 14), .mv (.v (.int .i64 0)), none⟩])
  (.block 0
    (.canon [(13, none, .str, 9)] [0, 3, 9, 12, 13, 14] (.sub 0 signetref3_take_b0))))
  (.seq
  (.reg 8 none [
    ⟨(some 94), .mv (.t 12), none⟩,
    ⟨(some 8), .mv (.t 94), none⟩])
  (.canon [] [8] .ret)))))))))))
theorem signetref3_take_chk : chk Try.prog 15 [] = some (signetref3_take_q.erase, [.tmp 8], 95) := by kernel_rfl
noncomputable def signetref3_take_p0_step (self : (List Eng.Node) → Int → Bool → Int → Option Int) (open_ : Int) (next : Int) (i : Int) (v : List Eng.Node) (n_Kind : Int) (n_Kids : Int) (names : List ByteArray) : Option ((Int × Int × (List ByteArray)) ⊕ (Int ⊕ Int)) :=
  bif decide (i < n_Kids) then (
    gd (InI64 (open_ + (1 : Int))) <|
    (self v next (decide (n_Kind = (7 : Int))) (open_ + (1 : Int))).bind fun r19 =>
    gd ((decide (n_Kind = (7 : Int))) = true → (decide (r19 < (0 : Int))) = false → 0 ≤ next ∧ next < v.length) <|
    gd ((decide (n_Kind = (7 : Int))) = true → (decide (r19 < (0 : Int))) = false → (Int.toNat next) < v.length) <|
    gd ((decide (n_Kind = (7 : Int))) = true → (decide (r19 < (0 : Int))) = false → (Int.toNat next) < v.length) <|
    bif decide (r19 < (0 : Int)) then (
      some (.inr (.inl (-1 : Int))))
    else (
      bif decide (n_Kind = (7 : Int)) then (
        (signetref3_among_s names ((v.getD (Int.toNat next) (ET.dft .node)).key)).bind fun r20 =>
        bif r20 then (
          some (.inr (.inl (-1 : Int))))
        else (
          gd (0 ≤ next ∧ next < v.length) <|
          gd ((Int.toNat next) < v.length) <|
          gd ((Int.toNat next) < v.length) <|
          gd (names.length + ([(v.getD (Int.toNat next) (ET.dft .node)).key] : List ByteArray).length ≤ 9223372036854775807 ∧ (names.length + ([(v.getD (Int.toNat next) (ET.dft .node)).key] : List ByteArray).length) * 16 ≤ 140737488355328) <|
          gd (InI64 (i + (1 : Int))) <|
          some (.inl (r19, (i + (1 : Int)), (names ++ [(v.getD (Int.toNat next) (ET.dft .node)).key])))))
      else (
        gd (0 ≤ next ∧ next < v.length) <|
        gd ((Int.toNat next) < v.length) <|
        gd ((Int.toNat next) < v.length) <|
        gd (names.length + ([(v.getD (Int.toNat next) (ET.dft .node)).key] : List ByteArray).length ≤ 9223372036854775807 ∧ (names.length + ([(v.getD (Int.toNat next) (ET.dft .node)).key] : List ByteArray).length) * 16 ≤ 140737488355328) <|
        gd (InI64 (i + (1 : Int))) <|
        some (.inl (r19, (i + (1 : Int)), (names ++ [(v.getD (Int.toNat next) (ET.dft .node)).key]))))))
  else (
    some (.inr (.inr next)))
noncomputable def signetref3_take_p0 (self : (List Eng.Node) → Int → Bool → Int → Option Int) (open_ : Int) (next : Int) (i : Int) (v : List Eng.Node) (n_Kind : Int) (n_Kids : Int) (names : List ByteArray) : Option (Int ⊕ Int) :=
  whileO (fun x : (Int × Int × (List ByteArray)) => signetref3_take_p0_step self open_ x.1 x.2.1 v n_Kind n_Kids x.2.2) (next, i, names)
noncomputable def signetref3_take_t (self : (List Eng.Node) → Int → Bool → Int → Option Int) (v : (List Eng.Node)) (at_ : Int) (object : Bool) (open_ : Int) : Option Int :=
  bif decide ((v.length : Int) ≤ at_) then (
    some (-1 : Int))
  else (
    gd (0 ≤ at_ ∧ at_ < v.length) <|
    gd ((Int.toNat at_) < v.length) <|
    (signetref3_plain_s (v.getD (Int.toNat at_) (ET.dft .node))).bind fun r17 =>
    (signetref3_utf_s ((v.getD (Int.toNat at_) (ET.dft .node)).key)).bind fun r18 =>
    bif ((((!r17) || (!r18)) || ((!object) && (!decide (((v.getD (Int.toNat at_) (ET.dft .node)).key) = (⟨#[]⟩ : ByteArray))))) || ((decide ((6 : Int) ≤ ((v.getD (Int.toNat at_) (ET.dft .node)).kind))) && (decide (open_ = (32 : Int))))) then (
      some (-1 : Int))
    else (
      gd (InI64 (at_ + (1 : Int))) <|
      (signetref3_take_p0 self open_ (at_ + (1 : Int)) (0 : Int) v ((v.getD (Int.toNat at_) (ET.dft .node)).kind) ((v.getD (Int.toNat at_) (ET.dft .node)).kids) []).bind fun o21 => (Sum.elim (fun (o21_0 : Int) =>
        some o21_0) (fun (o21_1 : Int) =>
        some o21_1)) o21))
noncomputable def signetref3_take_G (self : (List Eng.Node) → Int → Bool → Int → Option Int) : Nat → Option CQ := tblQ [(21, signetref3_plain_w), (22, signetref3_utf_w), (15, signetref3_take_ws self), (23, signetref3_among_w)]
theorem signetref3_take_Gok (self : (List Eng.Node) → Int → Bool → Int → Option Int) (hself : ValidQ Try.prog 15 (signetref3_take_ws self)) : ∀ f C, (signetref3_take_G self) f = some C → ValidQ Try.prog f C := tblQ_valid ⟨signetref3_plain_ok, signetref3_utf_ok, hself, signetref3_among_ok, trivial⟩
def signetref3_take_d0 := (dQS (dCons (dSl 0 (dVC (dCO (dO 0)))) (dCons (dSl 3 (dVC (dCO (dI .i64)))) (dCons (dSl 9 (dVC (dCO (dH 1 0)))) (dCons (dSl 12 (dVC (dCO (dI .i64)))) (dCons (dSl 13 (dVC (dCO (dO 2)))) (dCons (dSl 14 (dVC (dCO (dI .i64)))) dNil)))))) (dCons (dView .node) (dCons (dCells 40 (dCons (dI .i64) (dCons dS (dCons dS (dCons dB (dCons (dI .i64) (dCons (dI .i64) dNil))))))) (dCons (dRow .str 9) dNil))))
noncomputable def signetref3_take_l0 (self : (List Eng.Node) → Int → Bool → Int → Option Int) : SubQ := fun S R kn kx kr => (Dec.d signetref3_take_d0 S).bind fun x => (signetref3_take_p0 self x.1.2.1 x.1.2.2.2.1 x.1.2.2.2.2.2.1 x.2.1 x.2.2.1.1 x.2.2.1.2.2.2.2.2.1 x.2.2.2.1).bind fun r => (Sum.elim (fun (r_0 : Int) => kr ⟨[(8, [], .c (.o (.val (.int .i64 r_0))))], [], [.view .node x.2.1]⟩) (fun (r_1 : Int) => kx 0 ⟨[(12, [], .c (.o (.val (.int .i64 r_1))))], [], [.view .node x.2.1]⟩)) r
noncomputable def signetref3_take_L (self : (List Eng.Node) → Int → Bool → Int → Option Int) : Nat → SubQ := tblL [(0, signetref3_take_l0 self)]
theorem signetref3_take_p0_eq (self : (List Eng.Node) → Int → Bool → Int → Option Int) (open_ : Int) (next : Int) (i : Int) (v : List Eng.Node) (n_Kind : Int) (n_Key : ByteArray) (n_Text : ByteArray) (n_Whole : Bool) (n_Int : Int) (n_Kids : Int) (names : List ByteArray) (R : Type) (kn : QS → Option R) (kx : Nat → QS → Option R) (kr : QS → Option R) :
    interpQ (signetref3_take_L self) (signetref3_take_G self) 1 16 95 signetref3_take_b0 ⟨[(0, [], .c (.o (.own 0))), (3, [], .c (.o (.val (.int .i64 open_)))), (9, [], .c (.o (.hd 1 0))), (12, [], .c (.o (.val (.int .i64 next)))), (13, [], .c (.o (.own 2))), (14, [], .c (.o (.val (.int .i64 i))))], [], [.view .node v, .cells 40 [.val (.int .i64 n_Kind), .val (.string n_Key), .val (.string n_Text), .val (.bool n_Whole), .val (.int .i64 n_Int), .val (.int .i64 n_Kids)], .row .str 9 names]⟩ kn kx kr = (signetref3_take_p0 self open_ next i v n_Kind n_Kids names).bind fun r => (Sum.elim (fun (r_0 : Int) => kr ⟨[(8, [], .c (.o (.val (.int .i64 r_0))))], [], [.view .node v]⟩) (fun (r_1 : Int) => kx 0 ⟨[(12, [], .c (.o (.val (.int .i64 r_1))))], [], [.view .node v]⟩)) r := by
  refine loop_piece (step := fun x => signetref3_take_p0_step self open_ x.1 x.2.1 v n_Kind n_Kids x.2.2) (enc := fun x => ⟨[(0, [], .c (.o (.own 0))), (3, [], .c (.o (.val (.int .i64 open_)))), (9, [], .c (.o (.hd 1 0))), (12, [], .c (.o (.val (.int .i64 x.1)))), (13, [], .c (.o (.own 2))), (14, [], .c (.o (.val (.int .i64 x.2.1))))], [], [.view .node v, .cells 40 [.val (.int .i64 n_Kind), .val (.string n_Key), .val (.string n_Text), .val (.bool n_Whole), .val (.int .i64 n_Int), .val (.int .i64 n_Kids)], .row .str 9 x.2.2]⟩) (ko := fun r => (Sum.elim (fun (r_0 : Int) => kr ⟨[(8, [], .c (.o (.val (.int .i64 r_0))))], [], [.view .node v]⟩) (fun (r_1 : Int) => kx 0 ⟨[(12, [], .c (.o (.val (.int .i64 r_1))))], [], [.view .node v]⟩)) r) ?_ ?_ (next, i, names)
  · intro x; kernel_rfl
  · intro x ki; simp only [signetref3_take_p0_step, -eq_self, bind_cond, bind_gd, Option.bind_assoc, Option.bind_some, Sum.elim_inl, Sum.elim_inr, bind_elim]; kernel_rfl
theorem signetref3_take_sub0 (self : (List Eng.Node) → Int → Bool → Int → Option Int) : SubOK (signetref3_take_L self) (signetref3_take_G self) 1 16 95 0 signetref3_take_b0 := sub_ok' signetref3_take_d0 (fun x R kn kx kr => (signetref3_take_p0 self x.1.2.1 x.1.2.2.2.1 x.1.2.2.2.2.2.1 x.2.1 x.2.2.1.1 x.2.2.1.2.2.2.2.2.1 x.2.2.2.1).bind fun r => (Sum.elim (fun (r_0 : Int) => kr ⟨[(8, [], .c (.o (.val (.int .i64 r_0))))], [], [.view .node x.2.1]⟩) (fun (r_1 : Int) => kx 0 ⟨[(12, [], .c (.o (.val (.int .i64 r_1))))], [], [.view .node x.2.1]⟩)) r) (by kernel_rfl) fun x R kn kx kr => signetref3_take_p0_eq self x.1.2.1 x.1.2.2.2.1 x.1.2.2.2.2.2.1 x.2.1 x.2.2.1.1 x.2.2.1.2.1 x.2.2.1.2.2.1 x.2.2.1.2.2.2.1 x.2.2.1.2.2.2.2.1 x.2.2.1.2.2.2.2.2.1 x.2.2.2.1 R kn kx kr
theorem signetref3_take_subs (self : (List Eng.Node) → Int → Bool → Int → Option Int) : subsOK (signetref3_take_L self) (signetref3_take_G self) 1 16 95 signetref3_take_q := subs_of (show AllSub (signetref3_take_L self) (signetref3_take_G self) 1 16 95 [(0, signetref3_take_b0)] from ⟨(signetref3_take_sub0 self), trivial⟩)
theorem signetref3_take_eq (self : (List Eng.Node) → Int → Bool → Int → Option Int) (v : (List Eng.Node)) (at_ : Int) (object : Bool) (open_ : Int) (R : Type) (k : SV → List SB → Option R) :
    fnQ (signetref3_take_L self) (signetref3_take_G self) 16 95 signetref3_take_q [.tmp 8] [.c (.o (.own 0)), .c (.o (.val (.int .i64 at_))), .c (.o (.val (.bool object))), .c (.o (.val (.int .i64 open_)))] [.view .node v] k = (signetref3_take_t self v at_ object open_).bind fun r => k (.c (.o (.val (.int .i64 r)))) [.view .node v] := by
  simp only [signetref3_take_t, -eq_self, bind_cond, bind_gd, Option.bind_assoc, Option.bind_some, Sum.elim_inl, Sum.elim_inr, bind_elim]
  kernel_rfl
theorem signetref3_take_val_t (self : (List Eng.Node) → Int → Bool → Int → Option Int) (hself : ValidQ Try.prog 15 (signetref3_take_ws self)) : ValidS Try.prog 15 (signetref3_take_cs (signetref3_take_t self)) :=
  val_ok signetref3_take_chk 16 (signetref3_take_Gok self hself) signetref3_take_da signetref3_take_db 1 (fun x y R k => (signetref3_take_t self y.1 x.2.1 x.2.2.1 x.2.2.2.1).bind fun r => k (.c (.o (.val (.int .i64 r)))) [.view .node y.1]) (by kernel_rfl)
    (fun x y R k => by simp only [Option.bind_assoc, Option.bind_some]) (fun x => Nat.le_of_ble_eq_true rfl) (fun y => rfl) (signetref3_take_subs self) fun x y => signetref3_take_eq self y.1 x.2.1 x.2.2.1 x.2.2.2.1 _ _
noncomputable def signetref3_take_n : Nat → (List Eng.Node) → Int → Bool → Int → Option Int
  | 0 => fun _ _ _ _ => none
  | n + 1 => signetref3_take_t (signetref3_take_n n)
noncomputable def signetref3_take_s (v : (List Eng.Node)) (at_ : Int) (object : Bool) (open_ : Int) : Option Int := evt fun n => signetref3_take_n n v at_ object open_
theorem signetref3_take_valn : ∀ n, ValidS Try.prog 15 (signetref3_take_cs (signetref3_take_n n))
  | 0 => ValidS.zero fun args hp R k => by
    show ((Dec.d signetref3_take_da args).bind fun x => (Dec.d signetref3_take_db hp).bind fun y => none) = none
    cases Dec.d signetref3_take_da args with
    | none => rfl
    | some x => cases Dec.d signetref3_take_db hp <;> rfl
  | n + 1 => signetref3_take_val_t (signetref3_take_n n) (prep_quiet (signetref3_take_valn n))
theorem signetref3_take_val : ValidS Try.prog 15 (signetref3_take_cs signetref3_take_s) := ValidS.evt signetref3_take_valn (fun args hp R k => by
    show ((Dec.d signetref3_take_da args).bind fun x => (Dec.d signetref3_take_db hp).bind fun y => _) = (((Dec.d signetref3_take_da args).bind fun x => (Dec.d signetref3_take_db hp).bind fun y => _) : Option (SV × List SB)).bind _
    cases Dec.d signetref3_take_da args with
    | none => rfl
    | some x =>
      cases Dec.d signetref3_take_db hp with
      | none => rfl
      | some y => simp only [Option.bind_some, Option.bind_assoc]) fun args hp v hp' h => by
    obtain ⟨x, h1, h2⟩ := Option.bind_eq_some_iff.1 h
    obtain ⟨y, h3, h4⟩ := Option.bind_eq_some_iff.1 h2
    obtain ⟨r, h5, h6⟩ := Option.bind_eq_some_iff.1 h4
    obtain ⟨n, h7⟩ := evt_some h5
    refine ⟨n, ?_⟩
    show ((Dec.d signetref3_take_da args).bind fun x => (Dec.d signetref3_take_db hp).bind fun y => _) = _
    rw [h1]
    simp only [Option.bind_some]
    rw [h3]
    simp only [Option.bind_some]
    exact (congrArg (fun z => Option.bind z _) h7).trans h6
noncomputable def signetref3_take_w : CQ := signetref3_take_ws signetref3_take_s
theorem signetref3_take_ok : ValidQ Try.prog 15 signetref3_take_w := prep_quiet signetref3_take_val

/-! ### signet/signetref3.Shaped -/
def signetref3_Shaped_q : IQ :=
  (.seq
  (.reg 2 none [
    ⟨(some 2), .mv (.v (.bool false)), none⟩])
  (.seq
  (.reg 2 none [
    ⟨(some 3), .mv (.t 0), none⟩,
    ⟨(some 4), .len (.t 3), none⟩,
    ⟨(some 5), .bin false .gtr (.t 4) (.v (.int .i64 0)), none⟩,
    ⟨(some 6), .mv (.t 5), none⟩,
    ⟨(some 7), .mv (.t 0), some (6, true)⟩,
    ⟨(some 8), .call 15 [(.t 7), (.v (.int .i64 0)), (.v (.bool false)), (.v (.int .i64 0))], some (6, true)⟩,
    ⟨(some 9), .mv (.t 0), some (6, true)⟩,
    ⟨(some 10), .len (.t 9), some (6, true)⟩,
    ⟨(some 11), .bin false .eql (.t 8) (.t 10), some (6, true)⟩,
    ⟨(some 12), .pick (.t 6) (.t 11) (.v (.bool false)), none⟩,
    ⟨(some 2), .mv (.t 12), none⟩])
  (.canon [] [2] .ret)))
theorem signetref3_Shaped_chk : chk Try.prog 9 [] = some (signetref3_Shaped_q.erase, [.tmp 2], 13) := by kernel_rfl
noncomputable def signetref3_Shaped_s (v : (List Eng.Node)) : Option Bool :=
  bif decide ((0 : Int) < (v.length : Int)) then (
    (signetref3_take_s v (0 : Int) false (0 : Int)).bind fun r1 =>
    some (decide (r1 = (v.length : Int))))
  else (
    some false)
noncomputable def signetref3_Shaped_G : Nat → Option CQ := tblQ [(15, signetref3_take_w)]
theorem signetref3_Shaped_Gok : ∀ f C, signetref3_Shaped_G f = some C → ValidQ Try.prog f C := tblQ_valid ⟨signetref3_take_ok, trivial⟩
noncomputable def signetref3_Shaped_L : Nat → SubQ := tblL []
theorem signetref3_Shaped_subs : subsOK signetref3_Shaped_L signetref3_Shaped_G 1 3 13 signetref3_Shaped_q := subs_of (show AllSub signetref3_Shaped_L signetref3_Shaped_G 1 3 13 [] from trivial)
theorem signetref3_Shaped_eq (v : (List Eng.Node)) (R : Type) (k : SV → List SB → Option R) :
    fnQ signetref3_Shaped_L signetref3_Shaped_G 3 13 signetref3_Shaped_q [.tmp 2] [.c (.o (.own 0))] [.view .node v] k = (signetref3_Shaped_s v).bind fun r => k (.c (.o (.val (.bool r)))) [.view .node v] := by
  simp only [signetref3_Shaped_s, -eq_self, bind_cond, bind_gd, Option.bind_assoc, Option.bind_some, Sum.elim_inl, Sum.elim_inr, bind_elim]
  kernel_rfl
def signetref3_Shaped_da := (dCons (dVC (dCO (dO 0))) dNil)
def signetref3_Shaped_db := (dCons (dView .node) dNil)
noncomputable def signetref3_Shaped_c : CS := fun args hp R k => (Dec.d signetref3_Shaped_da args).bind fun x => (Dec.d signetref3_Shaped_db hp).bind fun y => (signetref3_Shaped_s y.1).bind fun r => k (.c (.o (.val (.bool r)))) [.view .node y.1]
theorem signetref3_Shaped_val : ValidS Try.prog 9 signetref3_Shaped_c :=
  val_ok signetref3_Shaped_chk 3 signetref3_Shaped_Gok signetref3_Shaped_da signetref3_Shaped_db 1 (fun x y R k => (signetref3_Shaped_s y.1).bind fun r => k (.c (.o (.val (.bool r)))) [.view .node y.1]) (by kernel_rfl)
    (fun x y R k => by simp only [Option.bind_assoc, Option.bind_some]) (fun x => Nat.le_of_ble_eq_true rfl) (fun y => rfl) signetref3_Shaped_subs fun x y => signetref3_Shaped_eq y.1 _ _
noncomputable def signetref3_Shaped_w : CQ := prepQ [(0, none, some (.node, 40))] (liftV [false] signetref3_Shaped_c)
theorem signetref3_Shaped_ok : ValidQ Try.prog 9 signetref3_Shaped_w := prep_quiet signetref3_Shaped_val

/-! ### a group that calls itself: signet/signetref3.Behind -/
def signetref3_Behind_da := (dCons (dVC (dCO (dO 0))) (dCons (dVC (dCO (dI .i64))) dNil))
def signetref3_Behind_db := (dCons (dView .node) dNil)
noncomputable def signetref3_Behind_cs (self : (List Eng.Node) → Int → Option Int) : CS := fun args hp R k => (Dec.d signetref3_Behind_da args).bind fun x => (Dec.d signetref3_Behind_db hp).bind fun y => (self y.1 x.2.1).bind fun r => k (.c (.o (.val (.int .i64 r)))) [.view .node y.1]
noncomputable def signetref3_Behind_ws (self : (List Eng.Node) → Int → Option Int) : CQ := prepQ [(0, none, some (.node, 40))] (liftV [false] (signetref3_Behind_cs self))

/-! ### signet/signetref3.Behind -/
def signetref3_Behind_b0 : IQ :=
  (.loop [0, 1, 5, 6]
    (.seq
    (.seq
    (.reg 27 none [
      ⟨(some 17), .mv (.t 6), none⟩,
      ⟨(some 18), .mv (.t 0), none⟩,
      ⟨(some 19), .mv (.t 1), none⟩,
      ⟨(some 20), .iaddr 6 (.t 18) (.t 19), none⟩,
      ⟨(some 21), .faddr 5 (.t 20), none⟩,
      ⟨(some 22), .load none (.t 21), none⟩,
      ⟨(some 23), .bin false .lss (.t 17) (.t 22), none⟩,
      ⟨(some 24), .mv (.t 23), none⟩,
      ⟨(some 25), .mv (.t 5), some (24, true)⟩,
      ⟨(some 26), .bin false .geq (.t 25) (.v (.int .i64 0)), some (24, true)⟩,
      ⟨(some 27), .pick (.t 24) (.t 26) (.v (.bool false)), none⟩])
    (.cond (.t 27)
      .skip
      (.canon [] [5] (.exit 0))))
    (.seq
    (.block 1
      (.reg 5 none [
        ⟨(some 30), .mv (.t 0), none⟩,
        ⟨(some 31), .mv (.t 5), none⟩,
        ⟨(some 32), .call 28 [(.t 30), (.t 31)], none⟩,
        ⟨(some 5), .mv (.t 32), none⟩]))
    (.reg 6 none [
      ⟨(some 28), .mv (.t 6), none⟩,
      ⟨(some 29), .bin false .add (.t 28) (.v (.int .i64 1)), none⟩,
      ⟨(some 6), .mv (.t 29), none⟩]))))
def signetref3_Behind_q : IQ :=
  (.seq
  (.reg 4 none [
    ⟨(some 4), .mv (.v (.int .i64 0)), none⟩])
  (.seq
  (.seq
  (.reg 14 none [
    ⟨(some 7), .mv (.t 1), none⟩,
    ⟨(some 8), .bin false .lss (.t 7) (.v (.int .i64 0)), none⟩,
    ⟨(some 9), .mv (.t 8), none⟩,
    ⟨(some 10), .mv (.t 1), some (9, false)⟩,
    ⟨(some 11), .mv (.t 0), some (9, false)⟩,
    ⟨(some 12), .len (.t 11), some (9, false)⟩,
    ⟨(some 13), .bin false .geq (.t 10) (.t 12), some (9, false)⟩,
    ⟨(some 14), .pick (.t 9) (.v (.bool true)) (.t 13), none⟩])
  (.cond (.t 14)
    (.seq
    (.reg 4 none [
      ⟨(some 4), .mv (.v (.int .i64 (-1))), none⟩])
    (.canon [] [4] .ret))
    .skip))
  (.seq
  (.reg 5 none [
    ⟨(some 15), .mv (.t 1), none⟩,
    ⟨(some 16), .bin false .add (.t 15) (.v (.int .i64 1)), none⟩,
    ⟨(some 5), .mv (.t 16), none⟩])
  (.seq
  (.seq
  (.reg 6 none [
    ⟨(some 6), .mv (.v (.int .i64 0)), none⟩])
  (.block 0
    (.canon [] [0, 1, 5, 6] (.sub 0 signetref3_Behind_b0))))
  (.seq
  (.reg 4 none [
    ⟨(some 33), .mv (.t 5), none⟩,
    ⟨(some 4), .mv (.t 33), none⟩])
  (.canon [] [4] .ret))))))
theorem signetref3_Behind_chk : chk Try.prog 28 [] = some (signetref3_Behind_q.erase, [.tmp 4], 34) := by kernel_rfl
noncomputable def signetref3_Behind_p0_step (self : (List Eng.Node) → Int → Option Int) (at_ : Int) (next : Int) (i : Int) (v : List Eng.Node) : Option ((Int × Int) ⊕ Int) :=
  gd (0 ≤ at_ ∧ at_ < v.length) <|
  gd ((Int.toNat at_) < v.length) <|
  gd ((Int.toNat at_) < v.length) <|
  bif ((decide (i < ((v.getD (Int.toNat at_) (ET.dft .node)).kids))) && (decide ((0 : Int) ≤ next))) then (
    (self v next).bind fun r3 =>
    gd (InI64 (i + (1 : Int))) <|
    some (.inl (r3, (i + (1 : Int)))))
  else (
    some (.inr next))
noncomputable def signetref3_Behind_p0 (self : (List Eng.Node) → Int → Option Int) (at_ : Int) (next : Int) (i : Int) (v : List Eng.Node) : Option Int :=
  whileO (fun x : (Int × Int) => signetref3_Behind_p0_step self at_ x.1 x.2 v) (next, i)
noncomputable def signetref3_Behind_t (self : (List Eng.Node) → Int → Option Int) (v : (List Eng.Node)) (at_ : Int) : Option Int :=
  bif ((decide (at_ < (0 : Int))) || (decide ((v.length : Int) ≤ at_))) then (
    some (-1 : Int))
  else (
    gd (InI64 (at_ + (1 : Int))) <|
    (signetref3_Behind_p0 self at_ (at_ + (1 : Int)) (0 : Int) v).bind fun o4 =>
    some o4)
noncomputable def signetref3_Behind_G (self : (List Eng.Node) → Int → Option Int) : Nat → Option CQ := tblQ [(28, signetref3_Behind_ws self)]
theorem signetref3_Behind_Gok (self : (List Eng.Node) → Int → Option Int) (hself : ValidQ Try.prog 28 (signetref3_Behind_ws self)) : ∀ f C, (signetref3_Behind_G self) f = some C → ValidQ Try.prog f C := tblQ_valid ⟨hself, trivial⟩
def signetref3_Behind_d0 := (dQS (dCons (dSl 0 (dVC (dCO (dO 0)))) (dCons (dSl 1 (dVC (dCO (dI .i64)))) (dCons (dSl 5 (dVC (dCO (dI .i64)))) (dCons (dSl 6 (dVC (dCO (dI .i64)))) dNil)))) (dCons (dView .node) dNil))
noncomputable def signetref3_Behind_l0 (self : (List Eng.Node) → Int → Option Int) : SubQ := fun S R kn kx kr => (Dec.d signetref3_Behind_d0 S).bind fun x => (signetref3_Behind_p0 self x.1.2.1 x.1.2.2.1 x.1.2.2.2.1 x.2.1).bind fun r => kx 0 ⟨[(5, [], .c (.o (.val (.int .i64 r))))], [], [.view .node x.2.1]⟩
noncomputable def signetref3_Behind_L (self : (List Eng.Node) → Int → Option Int) : Nat → SubQ := tblL [(0, signetref3_Behind_l0 self)]
theorem signetref3_Behind_p0_eq (self : (List Eng.Node) → Int → Option Int) (at_ : Int) (next : Int) (i : Int) (v : List Eng.Node) (R : Type) (kn : QS → Option R) (kx : Nat → QS → Option R) (kr : QS → Option R) :
    interpQ (signetref3_Behind_L self) (signetref3_Behind_G self) 1 7 34 signetref3_Behind_b0 ⟨[(0, [], .c (.o (.own 0))), (1, [], .c (.o (.val (.int .i64 at_)))), (5, [], .c (.o (.val (.int .i64 next)))), (6, [], .c (.o (.val (.int .i64 i))))], [], [.view .node v]⟩ kn kx kr = (signetref3_Behind_p0 self at_ next i v).bind fun r => kx 0 ⟨[(5, [], .c (.o (.val (.int .i64 r))))], [], [.view .node v]⟩ := by
  refine loop_piece (step := fun x => signetref3_Behind_p0_step self at_ x.1 x.2 v) (enc := fun x => ⟨[(0, [], .c (.o (.own 0))), (1, [], .c (.o (.val (.int .i64 at_)))), (5, [], .c (.o (.val (.int .i64 x.1)))), (6, [], .c (.o (.val (.int .i64 x.2))))], [], [.view .node v]⟩) (ko := fun r => kx 0 ⟨[(5, [], .c (.o (.val (.int .i64 r))))], [], [.view .node v]⟩) ?_ ?_ (next, i)
  · intro x; kernel_rfl
  · intro x ki; simp only [signetref3_Behind_p0_step, -eq_self, bind_cond, bind_gd, Option.bind_assoc, Option.bind_some, Sum.elim_inl, Sum.elim_inr, bind_elim]; kernel_rfl
theorem signetref3_Behind_sub0 (self : (List Eng.Node) → Int → Option Int) : SubOK (signetref3_Behind_L self) (signetref3_Behind_G self) 1 7 34 0 signetref3_Behind_b0 := sub_ok' signetref3_Behind_d0 (fun x R kn kx kr => (signetref3_Behind_p0 self x.1.2.1 x.1.2.2.1 x.1.2.2.2.1 x.2.1).bind fun r => kx 0 ⟨[(5, [], .c (.o (.val (.int .i64 r))))], [], [.view .node x.2.1]⟩) (by kernel_rfl) fun x R kn kx kr => signetref3_Behind_p0_eq self x.1.2.1 x.1.2.2.1 x.1.2.2.2.1 x.2.1 R kn kx kr
theorem signetref3_Behind_subs (self : (List Eng.Node) → Int → Option Int) : subsOK (signetref3_Behind_L self) (signetref3_Behind_G self) 1 7 34 signetref3_Behind_q := subs_of (show AllSub (signetref3_Behind_L self) (signetref3_Behind_G self) 1 7 34 [(0, signetref3_Behind_b0)] from ⟨(signetref3_Behind_sub0 self), trivial⟩)
theorem signetref3_Behind_eq (self : (List Eng.Node) → Int → Option Int) (v : (List Eng.Node)) (at_ : Int) (R : Type) (k : SV → List SB → Option R) :
    fnQ (signetref3_Behind_L self) (signetref3_Behind_G self) 7 34 signetref3_Behind_q [.tmp 4] [.c (.o (.own 0)), .c (.o (.val (.int .i64 at_)))] [.view .node v] k = (signetref3_Behind_t self v at_).bind fun r => k (.c (.o (.val (.int .i64 r)))) [.view .node v] := by
  simp only [signetref3_Behind_t, -eq_self, bind_cond, bind_gd, Option.bind_assoc, Option.bind_some, Sum.elim_inl, Sum.elim_inr, bind_elim]
  kernel_rfl
theorem signetref3_Behind_val_t (self : (List Eng.Node) → Int → Option Int) (hself : ValidQ Try.prog 28 (signetref3_Behind_ws self)) : ValidS Try.prog 28 (signetref3_Behind_cs (signetref3_Behind_t self)) :=
  val_ok signetref3_Behind_chk 7 (signetref3_Behind_Gok self hself) signetref3_Behind_da signetref3_Behind_db 1 (fun x y R k => (signetref3_Behind_t self y.1 x.2.1).bind fun r => k (.c (.o (.val (.int .i64 r)))) [.view .node y.1]) (by kernel_rfl)
    (fun x y R k => by simp only [Option.bind_assoc, Option.bind_some]) (fun x => Nat.le_of_ble_eq_true rfl) (fun y => rfl) (signetref3_Behind_subs self) fun x y => signetref3_Behind_eq self y.1 x.2.1 _ _
noncomputable def signetref3_Behind_n : Nat → (List Eng.Node) → Int → Option Int
  | 0 => fun _ _ => none
  | n + 1 => signetref3_Behind_t (signetref3_Behind_n n)
noncomputable def signetref3_Behind_s (v : (List Eng.Node)) (at_ : Int) : Option Int := evt fun n => signetref3_Behind_n n v at_
theorem signetref3_Behind_valn : ∀ n, ValidS Try.prog 28 (signetref3_Behind_cs (signetref3_Behind_n n))
  | 0 => ValidS.zero fun args hp R k => by
    show ((Dec.d signetref3_Behind_da args).bind fun x => (Dec.d signetref3_Behind_db hp).bind fun y => none) = none
    cases Dec.d signetref3_Behind_da args with
    | none => rfl
    | some x => cases Dec.d signetref3_Behind_db hp <;> rfl
  | n + 1 => signetref3_Behind_val_t (signetref3_Behind_n n) (prep_quiet (signetref3_Behind_valn n))
theorem signetref3_Behind_val : ValidS Try.prog 28 (signetref3_Behind_cs signetref3_Behind_s) := ValidS.evt signetref3_Behind_valn (fun args hp R k => by
    show ((Dec.d signetref3_Behind_da args).bind fun x => (Dec.d signetref3_Behind_db hp).bind fun y => _) = (((Dec.d signetref3_Behind_da args).bind fun x => (Dec.d signetref3_Behind_db hp).bind fun y => _) : Option (SV × List SB)).bind _
    cases Dec.d signetref3_Behind_da args with
    | none => rfl
    | some x =>
      cases Dec.d signetref3_Behind_db hp with
      | none => rfl
      | some y => simp only [Option.bind_some, Option.bind_assoc]) fun args hp v hp' h => by
    obtain ⟨x, h1, h2⟩ := Option.bind_eq_some_iff.1 h
    obtain ⟨y, h3, h4⟩ := Option.bind_eq_some_iff.1 h2
    obtain ⟨r, h5, h6⟩ := Option.bind_eq_some_iff.1 h4
    obtain ⟨n, h7⟩ := evt_some h5
    refine ⟨n, ?_⟩
    show ((Dec.d signetref3_Behind_da args).bind fun x => (Dec.d signetref3_Behind_db hp).bind fun y => _) = _
    rw [h1]
    simp only [Option.bind_some]
    rw [h3]
    simp only [Option.bind_some]
    exact (congrArg (fun z => Option.bind z _) h7).trans h6
noncomputable def signetref3_Behind_w : CQ := signetref3_Behind_ws signetref3_Behind_s
theorem signetref3_Behind_ok : ValidQ Try.prog 28 signetref3_Behind_w := prep_quiet signetref3_Behind_val

/-! ### signet/signetref3.Kids -/
def signetref3_Kids_b0 : IQ :=
  (.loop [0, 1, 5, 6, 7]
    (.seq
    (.seq
    (.reg 35 none [
      ⟨(some 19), .mv (.t 7), none⟩,
      ⟨(some 20), .mv (.t 0), none⟩,
      ⟨(some 21), .mv (.t 1), none⟩,
      ⟨(some 22), .iaddr 6 (.t 20) (.t 21), none⟩,
      ⟨(some 23), .faddr 5 (.t 22), none⟩,
      ⟨(some 24), .load none (.t 23), none⟩,
      ⟨(some 25), .bin false .lss (.t 19) (.t 24), none⟩,
      ⟨(some 26), .mv (.t 25), none⟩,
      ⟨(some 27), .mv (.t 6), some (26, true)⟩,
      ⟨(some 28), .bin false .geq (.t 27) (.v (.int .i64 0)), some (26, true)⟩,
      ⟨(some 29), .pick (.t 26) (.t 28) (.v (.bool false)), none⟩,
      ⟨(some 30), .mv (.t 29), none⟩,
      ⟨(some 31), .mv (.t 6), some (30, true)⟩,
      ⟨(some 32), .mv (.t 0), some (30, true)⟩,
      ⟨(some 33), .len (.t 32), some (30, true)⟩,
      ⟨(some 34), .bin false .lss (.t 31) (.t 33), some (30, true)⟩,
      ⟨(some 35), .pick (.t 30) (.t 34) (.v (.bool false)), none⟩])
    (.cond (.t 35)
      .skip
      (.canon [] [5] (.exit 0))))
    (.seq
    (.block 1
      (.seq
      (.reg 5 none [
        ⟨(some 38), .mv (.t 5), none⟩,
        ⟨(some 39), .mv (.t 6), none⟩,
        ⟨(some 40), .bslice 3 1 1 [.int .i64 0] [(0, (.t 39))], none⟩,
        ⟨(some 41), .append 3 1 8 [.int .i64 0] (.t 38) (.t 40), none⟩,
        ⟨(some 5), .mv (.t 41), none⟩])
      (.reg 6 none [
        ⟨(some 42), .mv (.t 0), none⟩,
        ⟨(some 43), .mv (.t 6), none⟩,
        ⟨(some 44), .call 28 [(.t 42), (.t 43)], none⟩,
        ⟨(some 6), .mv (.t 44), none⟩])))
    (.reg 7 none [
      ⟨(some 36), .mv (.t 7), none⟩,
      ⟨(some 37), .bin false .add (.t 36) (.v (.int .i64 1)), none⟩,
      ⟨(some 7), .mv (.t 37), none⟩]))))
def signetref3_Kids_q : IQ :=
  (.seq
  (.reg 4 none [
    ⟨(some 4), .mv (.v (.slice none 0 0)), none⟩])
  (.seq
  (.reg 5 none [
    ⟨(some 5), .mv (.v (.slice none 0 0)), none⟩])
  (.seq
  (.seq
  (.reg 15 none [
    ⟨(some 8), .mv (.t 1), none⟩,
    ⟨(some 9), .bin false .lss (.t 8) (.v (.int .i64 0)), none⟩,
    ⟨(some 10), .mv (.t 9), none⟩,
    ⟨(some 11), .mv (.t 1), some (10, false)⟩,
    ⟨(some 12), .mv (.t 0), some (10, false)⟩,
    ⟨(some 13), .len (.t 12), some (10, false)⟩,
    ⟨(some 14), .bin false .geq (.t 11) (.t 13), some (10, false)⟩,
    ⟨(some 15), .pick (.t 10) (.v (.bool true)) (.t 14), none⟩])
  (.cond (.t 15)
    (.seq
    (.reg 4 none [
      ⟨(some 16), .mv (.t 5), none⟩,
      ⟨(some 4), .mv (.t 16), none⟩])
    (.canon [(4, none, .i64, 3)] [4] .ret))
    .skip))
  (.seq
  (.reg 6 none [
    ⟨(some 17), .mv (.t 1), none⟩,
    ⟨(some 18), .bin false .add (.t 17) (.v (.int .i64 1)), none⟩,
    ⟨(some 6), .mv (.t 18), none⟩])
  (.seq
  (.seq
  (.reg 7 none [
    ⟨(some 7), .mv (.v (.int .i64 0)), none⟩])
  (.block 0
    (.canon [(5, none, .i64, 3)] [0, 1, 5, 6, 7] (.sub 0 signetref3_Kids_b0))))
  (.seq
  (.reg 4 none [
    ⟨(some 45), .mv (.t 5), none⟩,
    ⟨(some 4), .mv (.t 45), none⟩])
  (.canon [(4, none, .i64, 3)] [4] .ret)))))))
theorem signetref3_Kids_chk : chk Try.prog 24 [] = some (signetref3_Kids_q.erase, [.tmp 4], 46) := by kernel_rfl
noncomputable def signetref3_Kids_p0_step (at_ : Int) (next : Int) (i : Int) (v : List Eng.Node) (out : List Int) : Option ((Int × Int × (List Int)) ⊕ ((List Int))) :=
  gd (0 ≤ at_ ∧ at_ < v.length) <|
  gd ((Int.toNat at_) < v.length) <|
  gd ((Int.toNat at_) < v.length) <|
  bif (((decide (i < ((v.getD (Int.toNat at_) (ET.dft .node)).kids))) && (decide ((0 : Int) ≤ next))) && (decide (next < (v.length : Int)))) then (
    gd (out.length + ([next] : List Int).length ≤ 9223372036854775807 ∧ (out.length + ([next] : List Int).length) * 8 ≤ 140737488355328) <|
    (signetref3_Behind_s v next).bind fun r5 =>
    gd (InI64 (i + (1 : Int))) <|
    some (.inl (r5, (i + (1 : Int)), (out ++ [next]))))
  else (
    some (.inr out))
noncomputable def signetref3_Kids_p0 (at_ : Int) (next : Int) (i : Int) (v : List Eng.Node) (out : List Int) : Option ((List Int)) :=
  whileO (fun x : (Int × Int × (List Int)) => signetref3_Kids_p0_step at_ x.1 x.2.1 v x.2.2) (next, i, out)
noncomputable def signetref3_Kids_s (v : (List Eng.Node)) (at_ : Int) : Option ((List Int)) :=
  bif ((decide (at_ < (0 : Int))) || (decide ((v.length : Int) ≤ at_))) then (
    some [])
  else (
    gd (InI64 (at_ + (1 : Int))) <|
    (signetref3_Kids_p0 at_ (at_ + (1 : Int)) (0 : Int) v []).bind fun o6 =>
    some o6)
noncomputable def signetref3_Kids_G : Nat → Option CQ := tblQ [(28, signetref3_Behind_w)]
theorem signetref3_Kids_Gok : ∀ f C, signetref3_Kids_G f = some C → ValidQ Try.prog f C := tblQ_valid ⟨signetref3_Behind_ok, trivial⟩
def signetref3_Kids_d0 := (dQS (dCons (dSl 0 (dVC (dCO (dO 0)))) (dCons (dSl 1 (dVC (dCO (dI .i64)))) (dCons (dSl 5 (dVC (dCO (dO 1)))) (dCons (dSl 6 (dVC (dCO (dI .i64)))) (dCons (dSl 7 (dVC (dCO (dI .i64)))) dNil))))) (dCons (dView .node) (dCons (dRow .i64 3) dNil)))
noncomputable def signetref3_Kids_l0 : SubQ := fun S R kn kx kr => (Dec.d signetref3_Kids_d0 S).bind fun x => (signetref3_Kids_p0 x.1.2.1 x.1.2.2.2.1 x.1.2.2.2.2.1 x.2.1 x.2.2.1).bind fun r => kx 0 ⟨[(5, [], .c (.o (.own 1)))], [], [.view .node x.2.1, .row .i64 3 r]⟩
noncomputable def signetref3_Kids_L : Nat → SubQ := tblL [(0, signetref3_Kids_l0)]
theorem signetref3_Kids_p0_eq (at_ : Int) (next : Int) (i : Int) (v : List Eng.Node) (out : List Int) (R : Type) (kn : QS → Option R) (kx : Nat → QS → Option R) (kr : QS → Option R) :
    interpQ signetref3_Kids_L signetref3_Kids_G 1 8 46 signetref3_Kids_b0 ⟨[(0, [], .c (.o (.own 0))), (1, [], .c (.o (.val (.int .i64 at_)))), (5, [], .c (.o (.own 1))), (6, [], .c (.o (.val (.int .i64 next)))), (7, [], .c (.o (.val (.int .i64 i))))], [], [.view .node v, .row .i64 3 out]⟩ kn kx kr = (signetref3_Kids_p0 at_ next i v out).bind fun r => kx 0 ⟨[(5, [], .c (.o (.own 1)))], [], [.view .node v, .row .i64 3 r]⟩ := by
  refine loop_piece (step := fun x => signetref3_Kids_p0_step at_ x.1 x.2.1 v x.2.2) (enc := fun x => ⟨[(0, [], .c (.o (.own 0))), (1, [], .c (.o (.val (.int .i64 at_)))), (5, [], .c (.o (.own 1))), (6, [], .c (.o (.val (.int .i64 x.1)))), (7, [], .c (.o (.val (.int .i64 x.2.1))))], [], [.view .node v, .row .i64 3 x.2.2]⟩) (ko := fun r => kx 0 ⟨[(5, [], .c (.o (.own 1)))], [], [.view .node v, .row .i64 3 r]⟩) ?_ ?_ (next, i, out)
  · intro x; kernel_rfl
  · intro x ki; simp only [signetref3_Kids_p0_step, -eq_self, bind_cond, bind_gd, Option.bind_assoc, Option.bind_some, Sum.elim_inl, Sum.elim_inr, bind_elim]; kernel_rfl
theorem signetref3_Kids_sub0 : SubOK signetref3_Kids_L signetref3_Kids_G 1 8 46 0 signetref3_Kids_b0 := sub_ok' signetref3_Kids_d0 (fun x R kn kx kr => (signetref3_Kids_p0 x.1.2.1 x.1.2.2.2.1 x.1.2.2.2.2.1 x.2.1 x.2.2.1).bind fun r => kx 0 ⟨[(5, [], .c (.o (.own 1)))], [], [.view .node x.2.1, .row .i64 3 r]⟩) (by kernel_rfl) fun x R kn kx kr => signetref3_Kids_p0_eq x.1.2.1 x.1.2.2.2.1 x.1.2.2.2.2.1 x.2.1 x.2.2.1 R kn kx kr
theorem signetref3_Kids_subs : subsOK signetref3_Kids_L signetref3_Kids_G 1 8 46 signetref3_Kids_q := subs_of (show AllSub signetref3_Kids_L signetref3_Kids_G 1 8 46 [(0, signetref3_Kids_b0)] from ⟨signetref3_Kids_sub0, trivial⟩)
theorem signetref3_Kids_eq (v : (List Eng.Node)) (at_ : Int) (R : Type) (k : SV → List SB → Option R) :
    fnQ signetref3_Kids_L signetref3_Kids_G 8 46 signetref3_Kids_q [.tmp 4] [.c (.o (.own 0)), .c (.o (.val (.int .i64 at_)))] [.view .node v] k = (signetref3_Kids_s v at_).bind fun r => k (.c (.o (.own 1))) [.view .node v, .row .i64 3 r] := by
  simp only [signetref3_Kids_s, -eq_self, bind_cond, bind_gd, Option.bind_assoc, Option.bind_some, Sum.elim_inl, Sum.elim_inr, bind_elim]
  kernel_rfl
def signetref3_Kids_da := (dCons (dVC (dCO (dO 0))) (dCons (dVC (dCO (dI .i64))) dNil))
def signetref3_Kids_db := (dCons (dView .node) dNil)
noncomputable def signetref3_Kids_c : CS := fun args hp R k => (Dec.d signetref3_Kids_da args).bind fun x => (Dec.d signetref3_Kids_db hp).bind fun y => (signetref3_Kids_s y.1 x.2.1).bind fun r => k (.c (.o (.own 1))) [.view .node y.1, .row .i64 3 r]
theorem signetref3_Kids_val : ValidS Try.prog 24 signetref3_Kids_c :=
  val_ok signetref3_Kids_chk 8 signetref3_Kids_Gok signetref3_Kids_da signetref3_Kids_db 1 (fun x y R k => (signetref3_Kids_s y.1 x.2.1).bind fun r => k (.c (.o (.own 1))) [.view .node y.1, .row .i64 3 r]) (by kernel_rfl)
    (fun x y R k => by simp only [Option.bind_assoc, Option.bind_some]) (fun x => Nat.le_of_ble_eq_true rfl) (fun y => rfl) signetref3_Kids_subs fun x y => signetref3_Kids_eq y.1 x.2.1 _ _
noncomputable def signetref3_Kids_w : CQ := prepQ [(0, none, some (.node, 40))] (liftQ [false] signetref3_Kids_c)
theorem signetref3_Kids_ok : ValidQ Try.prog 24 signetref3_Kids_w := prep_loud signetref3_Kids_val

/-! ### signet/signetref3.Member -/
def signetref3_Member_b0 : IQ :=
  (.loop [0, 2, 7, 8]
    (.seq
    (.seq
    (.reg 31 none [
      ⟨(some 28), .mv (.t 8), none⟩,
      ⟨(some 29), .mv (.t 7), none⟩,
      ⟨(some 30), .len (.t 29), none⟩,
      ⟨(some 31), .bin false .lss (.t 28) (.t 30), none⟩])
    (.cond (.t 31)
      .skip
      (.canon [] [] (.exit 0))))
    (.seq
    (.block 1
      (.seq
      (.reg 43 none [
        ⟨(some 34), .mv (.t 0), none⟩,
        ⟨(some 35), .mv (.t 7), none⟩,
        ⟨(some 36), .mv (.t 8), none⟩,
        ⟨(some 37), .iaddr 1 (.t 35) (.t 36), none⟩,
        ⟨(some 38), .load none (.t 37), none⟩,
        ⟨(some 39), .iaddr 6 (.t 34) (.t 38), none⟩,
        ⟨(some 40), .faddr 1 (.t 39), none⟩,
        ⟨(some 41), .load none (.t 40), none⟩,
        ⟨(some 42), .mv (.t 2), none⟩,
        ⟨(some 43), .bin false .eql (.t 41) (.t 42), none⟩])
      (.cond (.t 43)
        (.seq
        (.reg 6 none [
          ⟨(some 44), .mv (.t 7), none⟩,
          ⟨(some 45), .mv (.t 8), none⟩,
          ⟨(some 46), .iaddr 1 (.t 44) (.t 45), none⟩,
          ⟨(some 47), .load none (.t 46), none⟩,
          ⟨(some 6), .mv (.t 47), none⟩])
        (.canon [] [6] .ret))
        .skip)))
    (.reg 8 none [
      ⟨(some 32), .mv (.t 8), none⟩,
      ⟨(some 33), .bin false .add (.t 32) (.v (.int .i64 1)), none⟩,
      ⟨(some 8), .mv (.t 33), none⟩]))))
def signetref3_Member_q : IQ :=
  (.seq
  (.reg 6 none [
    ⟨(some 6), .mv (.v (.int .i64 0)), none⟩])
  (.seq
  (.seq
  (.reg 24 none [
    ⟨(some 9), .mv (.t 1), none⟩,
    ⟨(some 10), .bin false .lss (.t 9) (.v (.int .i64 0)), none⟩,
    ⟨(some 11), .mv (.t 10), none⟩,
    ⟨(some 12), .mv (.t 1), some (11, false)⟩,
    ⟨(some 13), .mv (.t 0), some (11, false)⟩,
    ⟨(some 14), .len (.t 13), some (11, false)⟩,
    ⟨(some 15), .bin false .geq (.t 12) (.t 14), some (11, false)⟩,
    ⟨(some 16), .pick (.t 11) (.v (.bool true)) (.t 15), none⟩,
    ⟨(some 17), .mv (.t 16), none⟩,
    ⟨(some 18), .mv (.t 0), some (17, false)⟩,
    ⟨(some 19), .mv (.t 1), some (17, false)⟩,
    ⟨(some 20), .iaddr 6 (.t 18) (.t 19), some (17, false)⟩,
    ⟨(some 21), .faddr 0 (.t 20), some (17, false)⟩,
    ⟨(some 22), .load none (.t 21), some (17, false)⟩,
    ⟨(some 23), .bin false .neq (.t 22) (.v (.int .i64 7)), some (17, false)⟩,
    ⟨(some 24), .pick (.t 17) (.v (.bool true)) (.t 23), none⟩])
  (.cond (.t 24)
    (.seq
    (.reg 6 none [
      ⟨(some 6), .mv (.v (.int .i64 (-1))), none⟩])
    (.canon [] [6] .ret))
    .skip))
  (.seq
  (.reg 7 none [
    ⟨(some 25), .mv (.t 0), none⟩,
    ⟨(some 26), .mv (.t 1), none⟩,
    ⟨(some 27), .call 24 [(.t 25), (.t 26)], none⟩,
    ⟨(some 7), .mv (.t 27), none⟩])
  (.seq
  (.seq
  (.reg 8 none [
    ⟨(some 8), .mv (.v (.int .i64 0)), none⟩])
  (.block 0
    (.canon [] [0, 2, 7, 8] (.sub 0 signetref3_Member_b0))))
  (.seq
  (.reg 6 none [
    ⟨(some 6), .mv (.v (.int .i64 (-1))), none⟩])
  (.canon [] [6] .ret))))))
theorem signetref3_Member_chk : chk Try.prog 16 [] = some (signetref3_Member_q.erase, [.tmp 6], 48) := by kernel_rfl
noncomputable def signetref3_Member_p0_step (key : ByteArray) (i : Int) (v : List Eng.Node) (l : List Int) : Option (Int ⊕ (Int ⊕ Unit)) :=
  bif decide (i < (l.length : Int)) then (
    gd (0 ≤ i ∧ i < l.length) <|
    gd ((Int.toNat i) < l.length) <|
    gd (0 ≤ (l.getD (Int.toNat i) (ET.dft .i64)) ∧ (l.getD (Int.toNat i) (ET.dft .i64)) < v.length) <|
    gd ((Int.toNat (l.getD (Int.toNat i) (ET.dft .i64))) < v.length) <|
    gd ((Int.toNat (l.getD (Int.toNat i) (ET.dft .i64))) < v.length) <|
    bif decide (((v.getD (Int.toNat (l.getD (Int.toNat i) (ET.dft .i64))) (ET.dft .node)).key) = key) then (
      gd (0 ≤ i ∧ i < l.length) <|
      gd ((Int.toNat i) < l.length) <|
      some (.inr (.inl (l.getD (Int.toNat i) (ET.dft .i64)))))
    else (
      gd (InI64 (i + (1 : Int))) <|
      some (.inl (i + (1 : Int)))))
  else (
    some (.inr (.inr ())))
noncomputable def signetref3_Member_p0 (key : ByteArray) (i : Int) (v : List Eng.Node) (l : List Int) : Option (Int ⊕ Unit) :=
  whileO (fun x : Int => signetref3_Member_p0_step key x v l) i
noncomputable def signetref3_Member_s (v : (List Eng.Node)) (at_ : Int) (key : ByteArray) : Option Int :=
  gd (((decide (at_ < (0 : Int))) || (decide ((v.length : Int) ≤ at_))) = false → 0 ≤ at_ ∧ at_ < v.length) <|
  gd (((decide (at_ < (0 : Int))) || (decide ((v.length : Int) ≤ at_))) = false → (Int.toNat at_) < v.length) <|
  gd (((decide (at_ < (0 : Int))) || (decide ((v.length : Int) ≤ at_))) = false → (Int.toNat at_) < v.length) <|
  bif (((decide (at_ < (0 : Int))) || (decide ((v.length : Int) ≤ at_))) || (!decide (((v.getD (Int.toNat at_) (ET.dft .node)).kind) = (7 : Int)))) then (
    some (-1 : Int))
  else (
    (signetref3_Kids_s v at_).bind fun r2 =>
    (signetref3_Member_p0 key (0 : Int) v r2).bind fun o3 => (Sum.elim (fun (o3_0 : Int) =>
      some o3_0) (fun (o3_1 : Unit) =>
      some (-1 : Int))) o3)
noncomputable def signetref3_Member_G : Nat → Option CQ := tblQ [(24, signetref3_Kids_w)]
theorem signetref3_Member_Gok : ∀ f C, signetref3_Member_G f = some C → ValidQ Try.prog f C := tblQ_valid ⟨signetref3_Kids_ok, trivial⟩
def signetref3_Member_d0 := (dQS (dCons (dSl 0 (dVC (dCO (dO 0)))) (dCons (dSl 2 (dVC (dCO dS))) (dCons (dSl 7 (dVC (dCO (dO 1)))) (dCons (dSl 8 (dVC (dCO (dI .i64)))) dNil)))) (dCons (dView .node) (dCons (dRow .i64 3) dNil)))
noncomputable def signetref3_Member_l0 : SubQ := fun S R kn kx kr => (Dec.d signetref3_Member_d0 S).bind fun x => (signetref3_Member_p0 x.1.2.1 x.1.2.2.2.1 x.2.1 x.2.2.1).bind fun r => (Sum.elim (fun (r_0 : Int) => kr ⟨[(6, [], .c (.o (.val (.int .i64 r_0))))], [], [.view .node x.2.1]⟩) (fun (r_1 : Unit) => kx 0 ⟨[], [], [.view .node x.2.1]⟩)) r
noncomputable def signetref3_Member_L : Nat → SubQ := tblL [(0, signetref3_Member_l0)]
theorem signetref3_Member_p0_eq (key : ByteArray) (i : Int) (v : List Eng.Node) (l : List Int) (R : Type) (kn : QS → Option R) (kx : Nat → QS → Option R) (kr : QS → Option R) :
    interpQ signetref3_Member_L signetref3_Member_G 1 9 48 signetref3_Member_b0 ⟨[(0, [], .c (.o (.own 0))), (2, [], .c (.o (.val (.string key)))), (7, [], .c (.o (.own 1))), (8, [], .c (.o (.val (.int .i64 i))))], [], [.view .node v, .row .i64 3 l]⟩ kn kx kr = (signetref3_Member_p0 key i v l).bind fun r => (Sum.elim (fun (r_0 : Int) => kr ⟨[(6, [], .c (.o (.val (.int .i64 r_0))))], [], [.view .node v]⟩) (fun (r_1 : Unit) => kx 0 ⟨[], [], [.view .node v]⟩)) r := by
  refine loop_piece (step := fun x => signetref3_Member_p0_step key x v l) (enc := fun x => ⟨[(0, [], .c (.o (.own 0))), (2, [], .c (.o (.val (.string key)))), (7, [], .c (.o (.own 1))), (8, [], .c (.o (.val (.int .i64 x))))], [], [.view .node v, .row .i64 3 l]⟩) (ko := fun r => (Sum.elim (fun (r_0 : Int) => kr ⟨[(6, [], .c (.o (.val (.int .i64 r_0))))], [], [.view .node v]⟩) (fun (r_1 : Unit) => kx 0 ⟨[], [], [.view .node v]⟩)) r) ?_ ?_ i
  · intro x; kernel_rfl
  · intro x ki; simp only [signetref3_Member_p0_step, -eq_self, bind_cond, bind_gd, Option.bind_assoc, Option.bind_some, Sum.elim_inl, Sum.elim_inr, bind_elim]; kernel_rfl
theorem signetref3_Member_sub0 : SubOK signetref3_Member_L signetref3_Member_G 1 9 48 0 signetref3_Member_b0 := sub_ok' signetref3_Member_d0 (fun x R kn kx kr => (signetref3_Member_p0 x.1.2.1 x.1.2.2.2.1 x.2.1 x.2.2.1).bind fun r => (Sum.elim (fun (r_0 : Int) => kr ⟨[(6, [], .c (.o (.val (.int .i64 r_0))))], [], [.view .node x.2.1]⟩) (fun (r_1 : Unit) => kx 0 ⟨[], [], [.view .node x.2.1]⟩)) r) (by kernel_rfl) fun x R kn kx kr => signetref3_Member_p0_eq x.1.2.1 x.1.2.2.2.1 x.2.1 x.2.2.1 R kn kx kr
theorem signetref3_Member_subs : subsOK signetref3_Member_L signetref3_Member_G 1 9 48 signetref3_Member_q := subs_of (show AllSub signetref3_Member_L signetref3_Member_G 1 9 48 [(0, signetref3_Member_b0)] from ⟨signetref3_Member_sub0, trivial⟩)
theorem signetref3_Member_eq (v : (List Eng.Node)) (at_ : Int) (key : ByteArray) (R : Type) (k : SV → List SB → Option R) :
    fnQ signetref3_Member_L signetref3_Member_G 9 48 signetref3_Member_q [.tmp 6] [.c (.o (.own 0)), .c (.o (.val (.int .i64 at_))), .c (.o (.val (.string key)))] [.view .node v] k = (signetref3_Member_s v at_ key).bind fun r => k (.c (.o (.val (.int .i64 r)))) [.view .node v] := by
  simp only [signetref3_Member_s, -eq_self, bind_cond, bind_gd, Option.bind_assoc, Option.bind_some, Sum.elim_inl, Sum.elim_inr, bind_elim]
  kernel_rfl
def signetref3_Member_da := (dCons (dVC (dCO (dO 0))) (dCons (dVC (dCO (dI .i64))) (dCons (dVC (dCO dS)) dNil)))
def signetref3_Member_db := (dCons (dView .node) dNil)
noncomputable def signetref3_Member_c : CS := fun args hp R k => (Dec.d signetref3_Member_da args).bind fun x => (Dec.d signetref3_Member_db hp).bind fun y => (signetref3_Member_s y.1 x.2.1 x.2.2.1).bind fun r => k (.c (.o (.val (.int .i64 r)))) [.view .node y.1]
theorem signetref3_Member_val : ValidS Try.prog 16 signetref3_Member_c :=
  val_ok signetref3_Member_chk 9 signetref3_Member_Gok signetref3_Member_da signetref3_Member_db 1 (fun x y R k => (signetref3_Member_s y.1 x.2.1 x.2.2.1).bind fun r => k (.c (.o (.val (.int .i64 r)))) [.view .node y.1]) (by kernel_rfl)
    (fun x y R k => by simp only [Option.bind_assoc, Option.bind_some]) (fun x => Nat.le_of_ble_eq_true rfl) (fun y => rfl) signetref3_Member_subs fun x y => signetref3_Member_eq y.1 x.2.1 x.2.2.1 _ _
noncomputable def signetref3_Member_w : CQ := prepQ [(0, none, some (.node, 40))] (liftV [false] signetref3_Member_c)
theorem signetref3_Member_ok : ValidQ Try.prog 16 signetref3_Member_w := prep_quiet signetref3_Member_val

/-! ### signet/json.Behind -/
def json_Behind_b0 : IQ :=
  (.loop [0, 1, 5]
    (.seq
    (.seq
    (.reg 21 none [
      ⟨(some 14), .mv (.t 5), none⟩,
      ⟨(some 15), .bin false .gtr (.t 14) (.v (.int .i64 0)), none⟩,
      ⟨(some 16), .mv (.t 15), none⟩,
      ⟨(some 17), .mv (.t 1), some (16, true)⟩,
      ⟨(some 18), .mv (.t 0), some (16, true)⟩,
      ⟨(some 19), .len (.t 18), some (16, true)⟩,
      ⟨(some 20), .bin false .lss (.t 17) (.t 19), some (16, true)⟩,
      ⟨(some 21), .pick (.t 16) (.t 20) (.v (.bool false)), none⟩])
    (.cond (.t 21)
      .skip
      (.canon [] [1] (.exit 0))))
    (.seq
    (.block 1
      (.reg 5 none [
        ⟨(some 24), .mv (.t 5), none⟩,
        ⟨(some 25), .mv (.t 0), none⟩,
        ⟨(some 26), .mv (.t 1), none⟩,
        ⟨(some 27), .iaddr 6 (.t 25) (.t 26), none⟩,
        ⟨(some 28), .faddr 5 (.t 27), none⟩,
        ⟨(some 29), .load none (.t 28), none⟩,
        ⟨(some 30), .bin true .sub (.t 29) (.v (.int .i64 1)), none⟩,
        ⟨(some 31), .bin true .add (.t 24) (.t 30), none⟩,
        ⟨(some 5), .mv (.t 31), none⟩]))
    (.reg 1 none [
      ⟨(some 22), .mv (.t 1), none⟩,
      ⟨(some 23), .bin false .add (.t 22) (.v (.int .i64 1)), none⟩,
      ⟨(some 1), .mv (.t 23), none⟩]))))
def json_Behind_q : IQ :=
  (.seq
  (.reg 4 none [
    ⟨(some 4), .mv (.v (.int .i64 0)), none⟩])
  (.seq
  (.seq
  (.reg 13 none [
    ⟨(some 6), .mv (.t 1), none⟩,
    ⟨(some 7), .bin false .lss (.t 6) (.v (.int .i64 0)), none⟩,
    ⟨(some 8), .mv (.t 7), none⟩,
    ⟨(some 9), .mv (.t 1), some (8, false)⟩,
    ⟨(some 10), .mv (.t 0), some (8, false)⟩,
    ⟨(some 11), .len (.t 10), some (8, false)⟩,
    ⟨(some 12), .bin false .geq (.t 9) (.t 11), some (8, false)⟩,
    ⟨(some 13), .pick (.t 8) (.v (.bool true)) (.t 12), none⟩])
  (.cond (.t 13)
    (.seq
    (.reg 4 none [
      ⟨(some 4), .mv (.v (.int .i64 (-1))), none⟩])
    (.canon [] [4] .ret))
    .skip))
  (.seq
  (.seq
  (.reg 5 none [
    ⟨(some 5), .mv (.v (.int .i64 1)), none⟩])
  (.block 0
    (.canon [] [0, 1, 5] (.sub 0 json_Behind_b0))))
  (.seq
  (.reg 4 none [
    ⟨(some 32), .mv (.t 1), none⟩,
    ⟨(some 4), .mv (.t 32), none⟩])
  (.canon [] [4] .ret)))))
theorem json_Behind_chk : chk Try.prog 18 [30, 31] = some (json_Behind_q.erase, [.tmp 4], 33) := by kernel_rfl
noncomputable def json_Behind_p0_step (at_ : Int) (left : Int) (v : List Eng.Node) : Option ((Int × Int) ⊕ Int) :=
  bif ((decide ((0 : Int) < left)) && (decide (at_ < (v.length : Int)))) then (
    gd (0 ≤ at_ ∧ at_ < v.length) <|
    gd ((Int.toNat at_) < v.length) <|
    gd ((Int.toNat at_) < v.length) <|
    gd (InI64 (at_ + (1 : Int))) <|
    some (.inl ((at_ + (1 : Int)), w64 (left + (w64 (((v.getD (Int.toNat at_) (ET.dft .node)).kids) - (1 : Int)))))))
  else (
    some (.inr at_))
noncomputable def json_Behind_p0 (at_ : Int) (left : Int) (v : List Eng.Node) : Option Int :=
  whileO (fun x : (Int × Int) => json_Behind_p0_step x.1 x.2 v) (at_, left)
noncomputable def json_Behind_s (v : (List Eng.Node)) (at_ : Int) : Option Int :=
  bif ((decide (at_ < (0 : Int))) || (decide ((v.length : Int) ≤ at_))) then (
    some (-1 : Int))
  else (
    (json_Behind_p0 at_ (1 : Int) v).bind fun o1 =>
    some o1)
noncomputable def json_Behind_G : Nat → Option CQ := tblQ []
theorem json_Behind_Gok : ∀ f C, json_Behind_G f = some C → ValidQ Try.prog f C := fun f C h => by cases h
def json_Behind_d0 := (dQS (dCons (dSl 0 (dVC (dCO (dO 0)))) (dCons (dSl 1 (dVC (dCO (dI .i64)))) (dCons (dSl 5 (dVC (dCO (dI .i64)))) dNil))) (dCons (dView .node) dNil))
noncomputable def json_Behind_l0 : SubQ := fun S R kn kx kr => (Dec.d json_Behind_d0 S).bind fun x => (json_Behind_p0 x.1.2.1 x.1.2.2.1 x.2.1).bind fun r => kx 0 ⟨[(1, [], .c (.o (.val (.int .i64 r))))], [], [.view .node x.2.1]⟩
noncomputable def json_Behind_L : Nat → SubQ := tblL [(0, json_Behind_l0)]
theorem json_Behind_p0_eq (at_ : Int) (left : Int) (v : List Eng.Node) (R : Type) (kn : QS → Option R) (kx : Nat → QS → Option R) (kr : QS → Option R) :
    interpQ json_Behind_L json_Behind_G 1 6 33 json_Behind_b0 ⟨[(0, [], .c (.o (.own 0))), (1, [], .c (.o (.val (.int .i64 at_)))), (5, [], .c (.o (.val (.int .i64 left))))], [], [.view .node v]⟩ kn kx kr = (json_Behind_p0 at_ left v).bind fun r => kx 0 ⟨[(1, [], .c (.o (.val (.int .i64 r))))], [], [.view .node v]⟩ := by
  refine loop_piece (step := fun x => json_Behind_p0_step x.1 x.2 v) (enc := fun x => ⟨[(0, [], .c (.o (.own 0))), (1, [], .c (.o (.val (.int .i64 x.1)))), (5, [], .c (.o (.val (.int .i64 x.2))))], [], [.view .node v]⟩) (ko := fun r => kx 0 ⟨[(1, [], .c (.o (.val (.int .i64 r))))], [], [.view .node v]⟩) ?_ ?_ (at_, left)
  · intro x; kernel_rfl
  · intro x ki; simp only [json_Behind_p0_step, -eq_self, bind_cond, bind_gd, Option.bind_assoc, Option.bind_some, Sum.elim_inl, Sum.elim_inr, bind_elim]; kernel_rfl
theorem json_Behind_sub0 : SubOK json_Behind_L json_Behind_G 1 6 33 0 json_Behind_b0 := sub_ok' json_Behind_d0 (fun x R kn kx kr => (json_Behind_p0 x.1.2.1 x.1.2.2.1 x.2.1).bind fun r => kx 0 ⟨[(1, [], .c (.o (.val (.int .i64 r))))], [], [.view .node x.2.1]⟩) (by kernel_rfl) fun x R kn kx kr => json_Behind_p0_eq x.1.2.1 x.1.2.2.1 x.2.1 R kn kx kr
theorem json_Behind_subs : subsOK json_Behind_L json_Behind_G 1 6 33 json_Behind_q := subs_of (show AllSub json_Behind_L json_Behind_G 1 6 33 [(0, json_Behind_b0)] from ⟨json_Behind_sub0, trivial⟩)
theorem json_Behind_eq (v : (List Eng.Node)) (at_ : Int) (R : Type) (k : SV → List SB → Option R) :
    fnQ json_Behind_L json_Behind_G 6 33 json_Behind_q [.tmp 4] [.c (.o (.own 0)), .c (.o (.val (.int .i64 at_)))] [.view .node v] k = (json_Behind_s v at_).bind fun r => k (.c (.o (.val (.int .i64 r)))) [.view .node v] := by
  simp only [json_Behind_s, -eq_self, bind_cond, bind_gd, Option.bind_assoc, Option.bind_some, Sum.elim_inl, Sum.elim_inr, bind_elim]
  kernel_rfl
def json_Behind_da := (dCons (dVC (dCO (dO 0))) (dCons (dVC (dCO (dI .i64))) dNil))
def json_Behind_db := (dCons (dView .node) dNil)
noncomputable def json_Behind_c : CS := fun args hp R k => (Dec.d json_Behind_da args).bind fun x => (Dec.d json_Behind_db hp).bind fun y => (json_Behind_s y.1 x.2.1).bind fun r => k (.c (.o (.val (.int .i64 r)))) [.view .node y.1]
theorem json_Behind_val : ValidS Try.prog 18 json_Behind_c :=
  val_ok json_Behind_chk 6 json_Behind_Gok json_Behind_da json_Behind_db 1 (fun x y R k => (json_Behind_s y.1 x.2.1).bind fun r => k (.c (.o (.val (.int .i64 r)))) [.view .node y.1]) (by kernel_rfl)
    (fun x y R k => by simp only [Option.bind_assoc, Option.bind_some]) (fun x => Nat.le_of_ble_eq_true rfl) (fun y => rfl) json_Behind_subs fun x y => json_Behind_eq y.1 x.2.1 _ _
noncomputable def json_Behind_w : CQ := prepQ [(0, none, some (.node, 40))] (liftV [false] json_Behind_c)
theorem json_Behind_ok : ValidQ Try.prog 18 json_Behind_w := prep_quiet json_Behind_val

/-! ### signet/json.Member -/
def json_Member_b0 : IQ :=
  (.loop [0, 1, 2, 7, 8]
    (.seq
    (.seq
    (.reg 43 none [
      ⟨(some 27), .mv (.t 8), none⟩,
      ⟨(some 28), .mv (.t 0), none⟩,
      ⟨(some 29), .mv (.t 1), none⟩,
      ⟨(some 30), .iaddr 6 (.t 28) (.t 29), none⟩,
      ⟨(some 31), .faddr 5 (.t 30), none⟩,
      ⟨(some 32), .load none (.t 31), none⟩,
      ⟨(some 33), .bin false .lss (.t 27) (.t 32), none⟩,
      ⟨(some 34), .mv (.t 33), none⟩,
      ⟨(some 35), .mv (.t 7), some (34, true)⟩,
      ⟨(some 36), .bin false .geq (.t 35) (.v (.int .i64 0)), some (34, true)⟩,
      ⟨(some 37), .pick (.t 34) (.t 36) (.v (.bool false)), none⟩,
      ⟨(some 38), .mv (.t 37), none⟩,
      ⟨(some 39), .mv (.t 7), some (38, true)⟩,
      ⟨(some 40), .mv (.t 0), some (38, true)⟩,
      ⟨(some 41), .len (.t 40), some (38, true)⟩,
      ⟨(some 42), .bin false .lss (.t 39) (.t 41), some (38, true)⟩,
      ⟨(some 43), .pick (.t 38) (.t 42) (.v (.bool false)), none⟩])
    (.cond (.t 43)
      .skip
      (.canon [] [] (.exit 0))))
    (.seq
    (.block 1
      (.seq
      (.seq
      (.reg 52 none [
        ⟨(some 46), .mv (.t 0), none⟩,
        ⟨(some 47), .mv (.t 7), none⟩,
        ⟨(some 48), .iaddr 6 (.t 46) (.t 47), none⟩,
        ⟨(some 49), .faddr 1 (.t 48), none⟩,
        ⟨(some 50), .load none (.t 49), none⟩,
        ⟨(some 51), .mv (.t 2), none⟩,
        ⟨(some 52), .bin false .eql (.t 50) (.t 51), none⟩])
      (.cond (.t 52)
        (.seq
        (.reg 6 none [
          ⟨(some 53), .mv (.t 7), none⟩,
          ⟨(some 6), .mv (.t 53), none⟩])
        (.canon [] [6] .ret))
        .skip))
      (.reg 7 none [
        ⟨(some 54), .mv (.t 0), none⟩,
        ⟨(some 55), .mv (.t 7), none⟩,
        ⟨(some 56), .call 18 [(.t 54), (.t 55)], none⟩,
        ⟨(some 7), .mv (.t 56), none⟩])))
    (.reg 8 none [
      ⟨(some 44), .mv (.t 8), none⟩,
      ⟨(some 45), .bin false .add (.t 44) (.v (.int .i64 1)), none⟩,
      ⟨(some 8), .mv (.t 45), none⟩]))))
def json_Member_q : IQ :=
  (.seq
  (.reg 6 none [
    ⟨(some 6), .mv (.v (.int .i64 0)), none⟩])
  (.seq
  (.seq
  (.reg 24 none [
    ⟨(some 9), .mv (.t 1), none⟩,
    ⟨(some 10), .bin false .lss (.t 9) (.v (.int .i64 0)), none⟩,
    ⟨(some 11), .mv (.t 10), none⟩,
    ⟨(some 12), .mv (.t 1), some (11, false)⟩,
    ⟨(some 13), .mv (.t 0), some (11, false)⟩,
    ⟨(some 14), .len (.t 13), some (11, false)⟩,
    ⟨(some 15), .bin false .geq (.t 12) (.t 14), some (11, false)⟩,
    ⟨(some 16), .pick (.t 11) (.v (.bool true)) (.t 15), none⟩,
    ⟨(some 17), .mv (.t 16), none⟩,
    ⟨(some 18), .mv (.t 0), some (17, false)⟩,
    ⟨(some 19), .mv (.t 1), some (17, false)⟩,
    ⟨(some 20), .iaddr 6 (.t 18) (.t 19), some (17, false)⟩,
    ⟨(some 21), .faddr 0 (.t 20), some (17, false)⟩,
    ⟨(some 22), .load none (.t 21), some (17, false)⟩,
    ⟨(some 23), .bin false .neq (.t 22) (.v (.int .i64 7)), some (17, false)⟩,
    ⟨(some 24), .pick (.t 17) (.v (.bool true)) (.t 23), none⟩])
  (.cond (.t 24)
    (.seq
    (.reg 6 none [
      ⟨(some 6), .mv (.v (.int .i64 (-1))), none⟩])
    (.canon [] [6] .ret))
    .skip))
  (.seq
  (.reg 7 none [
    ⟨(some 25), .mv (.t 1), none⟩,
    ⟨(some 26), .bin false .add (.t 25) (.v (.int .i64 1)), none⟩,
    ⟨(some 7), .mv (.t 26), none⟩])
  (.seq
  (.seq
  (.reg 8 none [
    ⟨(some 8), .mv (.v (.int .i64 0)), none⟩])
  (.block 0
    (.canon [] [0, 1, 2, 7, 8] (.sub 0 json_Member_b0))))
  (.seq
  (.reg 6 none [
    ⟨(some 6), .mv (.v (.int .i64 (-1))), none⟩])
  (.canon [] [6] .ret))))))
theorem json_Member_chk : chk Try.prog 12 [] = some (json_Member_q.erase, [.tmp 6], 57) := by kernel_rfl
noncomputable def json_Member_p0_step (at_ : Int) (key : ByteArray) (next : Int) (i : Int) (v : List Eng.Node) : Option ((Int × Int) ⊕ (Int ⊕ Unit)) :=
  gd (0 ≤ at_ ∧ at_ < v.length) <|
  gd ((Int.toNat at_) < v.length) <|
  gd ((Int.toNat at_) < v.length) <|
  bif (((decide (i < ((v.getD (Int.toNat at_) (ET.dft .node)).kids))) && (decide ((0 : Int) ≤ next))) && (decide (next < (v.length : Int)))) then (
    gd (0 ≤ next ∧ next < v.length) <|
    gd ((Int.toNat next) < v.length) <|
    gd ((Int.toNat next) < v.length) <|
    bif decide (((v.getD (Int.toNat next) (ET.dft .node)).key) = key) then (
      some (.inr (.inl next)))
    else (
      (json_Behind_s v next).bind fun r3 =>
      gd (InI64 (i + (1 : Int))) <|
      some (.inl (r3, (i + (1 : Int))))))
  else (
    some (.inr (.inr ())))
noncomputable def json_Member_p0 (at_ : Int) (key : ByteArray) (next : Int) (i : Int) (v : List Eng.Node) : Option (Int ⊕ Unit) :=
  whileO (fun x : (Int × Int) => json_Member_p0_step at_ key x.1 x.2 v) (next, i)
noncomputable def json_Member_s (v : (List Eng.Node)) (at_ : Int) (key : ByteArray) : Option Int :=
  gd (((decide (at_ < (0 : Int))) || (decide ((v.length : Int) ≤ at_))) = false → 0 ≤ at_ ∧ at_ < v.length) <|
  gd (((decide (at_ < (0 : Int))) || (decide ((v.length : Int) ≤ at_))) = false → (Int.toNat at_) < v.length) <|
  gd (((decide (at_ < (0 : Int))) || (decide ((v.length : Int) ≤ at_))) = false → (Int.toNat at_) < v.length) <|
  bif (((decide (at_ < (0 : Int))) || (decide ((v.length : Int) ≤ at_))) || (!decide (((v.getD (Int.toNat at_) (ET.dft .node)).kind) = (7 : Int)))) then (
    some (-1 : Int))
  else (
    gd (InI64 (at_ + (1 : Int))) <|
    (json_Member_p0 at_ key (at_ + (1 : Int)) (0 : Int) v).bind fun o4 => (Sum.elim (fun (o4_0 : Int) =>
      some o4_0) (fun (o4_1 : Unit) =>
      some (-1 : Int))) o4)
noncomputable def json_Member_G : Nat → Option CQ := tblQ [(18, json_Behind_w)]
theorem json_Member_Gok : ∀ f C, json_Member_G f = some C → ValidQ Try.prog f C := tblQ_valid ⟨json_Behind_ok, trivial⟩
def json_Member_d0 := (dQS (dCons (dSl 0 (dVC (dCO (dO 0)))) (dCons (dSl 1 (dVC (dCO (dI .i64)))) (dCons (dSl 2 (dVC (dCO dS))) (dCons (dSl 7 (dVC (dCO (dI .i64)))) (dCons (dSl 8 (dVC (dCO (dI .i64)))) dNil))))) (dCons (dView .node) dNil))
noncomputable def json_Member_l0 : SubQ := fun S R kn kx kr => (Dec.d json_Member_d0 S).bind fun x => (json_Member_p0 x.1.2.1 x.1.2.2.1 x.1.2.2.2.1 x.1.2.2.2.2.1 x.2.1).bind fun r => (Sum.elim (fun (r_0 : Int) => kr ⟨[(6, [], .c (.o (.val (.int .i64 r_0))))], [], [.view .node x.2.1]⟩) (fun (r_1 : Unit) => kx 0 ⟨[], [], [.view .node x.2.1]⟩)) r
noncomputable def json_Member_L : Nat → SubQ := tblL [(0, json_Member_l0)]
theorem json_Member_p0_eq (at_ : Int) (key : ByteArray) (next : Int) (i : Int) (v : List Eng.Node) (R : Type) (kn : QS → Option R) (kx : Nat → QS → Option R) (kr : QS → Option R) :
    interpQ json_Member_L json_Member_G 1 9 57 json_Member_b0 ⟨[(0, [], .c (.o (.own 0))), (1, [], .c (.o (.val (.int .i64 at_)))), (2, [], .c (.o (.val (.string key)))), (7, [], .c (.o (.val (.int .i64 next)))), (8, [], .c (.o (.val (.int .i64 i))))], [], [.view .node v]⟩ kn kx kr = (json_Member_p0 at_ key next i v).bind fun r => (Sum.elim (fun (r_0 : Int) => kr ⟨[(6, [], .c (.o (.val (.int .i64 r_0))))], [], [.view .node v]⟩) (fun (r_1 : Unit) => kx 0 ⟨[], [], [.view .node v]⟩)) r := by
  refine loop_piece (step := fun x => json_Member_p0_step at_ key x.1 x.2 v) (enc := fun x => ⟨[(0, [], .c (.o (.own 0))), (1, [], .c (.o (.val (.int .i64 at_)))), (2, [], .c (.o (.val (.string key)))), (7, [], .c (.o (.val (.int .i64 x.1)))), (8, [], .c (.o (.val (.int .i64 x.2))))], [], [.view .node v]⟩) (ko := fun r => (Sum.elim (fun (r_0 : Int) => kr ⟨[(6, [], .c (.o (.val (.int .i64 r_0))))], [], [.view .node v]⟩) (fun (r_1 : Unit) => kx 0 ⟨[], [], [.view .node v]⟩)) r) ?_ ?_ (next, i)
  · intro x; kernel_rfl
  · intro x ki; simp only [json_Member_p0_step, -eq_self, bind_cond, bind_gd, Option.bind_assoc, Option.bind_some, Sum.elim_inl, Sum.elim_inr, bind_elim]; kernel_rfl
theorem json_Member_sub0 : SubOK json_Member_L json_Member_G 1 9 57 0 json_Member_b0 := sub_ok' json_Member_d0 (fun x R kn kx kr => (json_Member_p0 x.1.2.1 x.1.2.2.1 x.1.2.2.2.1 x.1.2.2.2.2.1 x.2.1).bind fun r => (Sum.elim (fun (r_0 : Int) => kr ⟨[(6, [], .c (.o (.val (.int .i64 r_0))))], [], [.view .node x.2.1]⟩) (fun (r_1 : Unit) => kx 0 ⟨[], [], [.view .node x.2.1]⟩)) r) (by kernel_rfl) fun x R kn kx kr => json_Member_p0_eq x.1.2.1 x.1.2.2.1 x.1.2.2.2.1 x.1.2.2.2.2.1 x.2.1 R kn kx kr
theorem json_Member_subs : subsOK json_Member_L json_Member_G 1 9 57 json_Member_q := subs_of (show AllSub json_Member_L json_Member_G 1 9 57 [(0, json_Member_b0)] from ⟨json_Member_sub0, trivial⟩)
theorem json_Member_eq (v : (List Eng.Node)) (at_ : Int) (key : ByteArray) (R : Type) (k : SV → List SB → Option R) :
    fnQ json_Member_L json_Member_G 9 57 json_Member_q [.tmp 6] [.c (.o (.own 0)), .c (.o (.val (.int .i64 at_))), .c (.o (.val (.string key)))] [.view .node v] k = (json_Member_s v at_ key).bind fun r => k (.c (.o (.val (.int .i64 r)))) [.view .node v] := by
  simp only [json_Member_s, -eq_self, bind_cond, bind_gd, Option.bind_assoc, Option.bind_some, Sum.elim_inl, Sum.elim_inr, bind_elim]
  kernel_rfl
def json_Member_da := (dCons (dVC (dCO (dO 0))) (dCons (dVC (dCO (dI .i64))) (dCons (dVC (dCO dS)) dNil)))
def json_Member_db := (dCons (dView .node) dNil)
noncomputable def json_Member_c : CS := fun args hp R k => (Dec.d json_Member_da args).bind fun x => (Dec.d json_Member_db hp).bind fun y => (json_Member_s y.1 x.2.1 x.2.2.1).bind fun r => k (.c (.o (.val (.int .i64 r)))) [.view .node y.1]
theorem json_Member_val : ValidS Try.prog 12 json_Member_c :=
  val_ok json_Member_chk 9 json_Member_Gok json_Member_da json_Member_db 1 (fun x y R k => (json_Member_s y.1 x.2.1 x.2.2.1).bind fun r => k (.c (.o (.val (.int .i64 r)))) [.view .node y.1]) (by kernel_rfl)
    (fun x y R k => by simp only [Option.bind_assoc, Option.bind_some]) (fun x => Nat.le_of_ble_eq_true rfl) (fun y => rfl) json_Member_subs fun x y => json_Member_eq y.1 x.2.1 x.2.2.1 _ _
noncomputable def json_Member_w : CQ := prepQ [(0, none, some (.node, 40))] (liftV [false] json_Member_c)
theorem json_Member_ok : ValidQ Try.prog 12 json_Member_w := prep_quiet json_Member_val
end Go.Proofs.Ytdcoiccdbgcpaaa
