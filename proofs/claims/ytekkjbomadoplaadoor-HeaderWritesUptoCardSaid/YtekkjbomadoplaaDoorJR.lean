/-
 Functions as the engine reads them (printed by gen.py).
-/
import Derived.Test.YtekkjbomadoplaaDoorEngO
import Derived.Test.YtekkjbomadoplaaDoorProg
import Derived.Test.YtekkjbomadoplaaDoorGC
namespace Go.Proofs.YtekkjbomadoplaaDoor
open Go.Eng
set_option linter.unusedVariables false
set_option linter.unusedSimpArgs false
set_option maxRecDepth 100000
noncomputable section
structure signetref3_Got where
 at_ : Int
 l : (List Eng.Node)
 s : ByteArray
 code : Int
 bad : Int

/-! ### signet/signetref3.Beyond -/
/-! ### signet/signetref3.bounds -/
def zbd_q : IQ :=
 (.seq
 (.reg 4 none [
  oP 2 (.mv (.v (.int .i64 0))),
  oP 3 (.mv (.v (.int .i64 0))),
  oP 4 (.mv (.v (.int .i64 0)))])
 (.seq
 (.block 0
  (.seq
  (.reg 5 none [
   oP 6 (.mv (.t 0)),
   oP 7 (.bin false .lss (.t 6) (.v (.int .i64 194))),
   oP 8 (.mv (.t 7)),
   oG 9 (.mv (.t 0)) 8 false,
   oG 10 (.bin false .gtr (.t 9) (.v (.int .i64 244))) 8 false,
   oP 11 (.pick (.t 8) (.v (.bool true)) (.t 10)),
   oP 5 (.mv (.t 11))])
  (.cond (.t 5)
   (.seq
   (.reg 4 none [
    oP 2 (.mv (.v (.int .i64 (-1)))),
    oP 3 (.mv (.v (.int .i64 0))),
    oP 4 (.mv (.v (.int .i64 0)))])
   (.canon [] [2, 3, 4] .ret))
   (.seq
   (.reg 12 none [
    oP 13 (.mv (.t 0)),
    oP 14 (.bin false .lss (.t 13) (.v (.int .i64 224))),
    oP 12 (.mv (.t 14))])
   (.cond (.t 12)
    (.seq
    (.reg 4 none [
     oP 2 (.mv (.v (.int .i64 1))),
     oP 3 (.mv (.v (.int .i64 128))),
     oP 4 (.mv (.v (.int .i64 191)))])
    (.canon [] [2, 3, 4] .ret))
    (.seq
    (.reg 15 none [
     oP 16 (.mv (.t 0)),
     oP 17 (.bin false .eql (.t 16) (.v (.int .i64 224))),
     oP 15 (.mv (.t 17))])
    (.cond (.t 15)
     (.seq
     (.reg 4 none [
      oP 2 (.mv (.v (.int .i64 2))),
      oP 3 (.mv (.v (.int .i64 160))),
      oP 4 (.mv (.v (.int .i64 191)))])
     (.canon [] [2, 3, 4] .ret))
     (.seq
     (.reg 18 none [
      oP 19 (.mv (.t 0)),
      oP 20 (.bin false .eql (.t 19) (.v (.int .i64 237))),
      oP 18 (.mv (.t 20))])
     (.cond (.t 18)
      (.seq
      (.reg 4 none [
       oP 2 (.mv (.v (.int .i64 2))),
       oP 3 (.mv (.v (.int .i64 128))),
       oP 4 (.mv (.v (.int .i64 159)))])
      (.canon [] [2, 3, 4] .ret))
      (.seq
      (.reg 21 none [
       oP 22 (.mv (.t 0)),
       oP 23 (.bin false .lss (.t 22) (.v (.int .i64 240))),
       oP 21 (.mv (.t 23))])
      (.cond (.t 21)
       (.seq
       (.reg 4 none [
        oP 2 (.mv (.v (.int .i64 2))),
        oP 3 (.mv (.v (.int .i64 128))),
        oP 4 (.mv (.v (.int .i64 191)))])
       (.canon [] [2, 3, 4] .ret))
       (.seq
       (.reg 24 none [
        oP 25 (.mv (.t 0)),
        oP 26 (.bin false .eql (.t 25) (.v (.int .i64 240))),
        oP 24 (.mv (.t 26))])
       (.cond (.t 24)
        (.seq
        (.reg 4 none [
         oP 2 (.mv (.v (.int .i64 3))),
         oP 3 (.mv (.v (.int .i64 144))),
         oP 4 (.mv (.v (.int .i64 191)))])
        (.canon [] [2, 3, 4] .ret))
        (.seq
        (.reg 27 none [
         oP 28 (.mv (.t 0)),
         oP 29 (.bin false .eql (.t 28) (.v (.int .i64 244))),
         oP 27 (.mv (.t 29))])
        (.cond (.t 27)
         (.seq
         (.reg 4 none [
          oP 2 (.mv (.v (.int .i64 3))),
          oP 3 (.mv (.v (.int .i64 128))),
          oP 4 (.mv (.v (.int .i64 143)))])
         (.canon [] [2, 3, 4] .ret))
         .skip)))))))))))))))
 (.seq
 (.reg 4 none [
  oP 2 (.mv (.v (.int .i64 3))),
  oP 3 (.mv (.v (.int .i64 128))),
  oP 4 (.mv (.v (.int .i64 191)))])
 (.canon [] [2, 3, 4] .ret))))
theorem zbd_chk : chk Tryd.prog 92 [] = some (zbd_q.erase, [.tmp 2, .tmp 3, .tmp 4], 30) := by kernel_rfl
def zbd_s (c : Int) : Option (Int × Int × Int) :=
 bif ((decide (c < (194 : Int))) || (decide ((244 : Int) < c))) then (
  some ((-1 : Int), (0 : Int), (0 : Int)))
 else (
  bif decide (c < (224 : Int)) then (
   some ((1 : Int), (128 : Int), (191 : Int)))
  else (
   bif decide (c = (224 : Int)) then (
    some ((2 : Int), (160 : Int), (191 : Int)))
   else (
    bif decide (c = (237 : Int)) then (
     some ((2 : Int), (128 : Int), (159 : Int)))
    else (
     bif decide (c < (240 : Int)) then (
      some ((2 : Int), (128 : Int), (191 : Int)))
     else (
      bif decide (c = (240 : Int)) then (
       some ((3 : Int), (144 : Int), (191 : Int)))
      else (
       bif decide (c = (244 : Int)) then (
        some ((3 : Int), (128 : Int), (143 : Int)))
       else (
        some ((3 : Int), (128 : Int), (191 : Int)))))))))
def zbd_G : Nat → Option CQ := tblQ []
theorem zbd_Gok : ∀ f C, zbd_G f = some C → ValidQ Tryd.prog f C := fun f C h => by cases h
def zbd_L : Nat → SubQ := tblL []
theorem zbd_subs : subsOK zbd_L zbd_G 0 5 30 zbd_q := subs_of (show AllSub zbd_L zbd_G 0 5 30 [] from trivial)
theorem zbd_eq (c : Int) (R : Type) (k : SV → List SB → Option R) :
  fnQ zbd_L zbd_G 5 30 zbd_q [.tmp 2, .tmp 3, .tmp 4] [.c (.o (.val (.int .i64 c)))] [] k = (zbd_s c).bind fun r => k (.tup [.o (.val (.int .i64 r.1)), .o (.val (.int .i64 r.2.1)), .o (.val (.int .i64 r.2.2))]) [] := by
 simp only [zbd_s, -eq_self, bind_cond, bind_gd, Option.bind_assoc, obS, Sum.elim_inl, Sum.elim_inr, bind_elim]
 kernel_rfl
def zbd_da := (dCons (dVC (dCO (dI .i64))) dNil)
def zbd_db := (dNil : Dec Unit (List SB))
def zbd_c : CS := fun args hp R k => (Dec.d zbd_da args).bind fun x => (Dec.d zbd_db hp).bind fun y => (zbd_s x.1).bind fun r => k (.tup [.o (.val (.int .i64 r.1)), .o (.val (.int .i64 r.2.1)), .o (.val (.int .i64 r.2.2))]) []
theorem zbd_val : ValidS Tryd.prog 92 zbd_c :=
 val_ok zbd_chk 5 zbd_Gok zbd_da zbd_db 0 (fun x y R k => (zbd_s x.1).bind fun r => k (.tup [.o (.val (.int .i64 r.1)), .o (.val (.int .i64 r.2.1)), .o (.val (.int .i64 r.2.2))]) []) (by kernel_rfl)
  (fun x y R k => by simp only [Option.bind_assoc, obS]) (fun x => Nat.le_of_ble_eq_true rfl) (fun y => rfl) zbd_subs fun x y => zbd_eq x.1 _ _
def zbd_w : CQ := liftV [] zbd_c
theorem zbd_ok : ValidQ Tryd.prog 92 zbd_w := liftV_valid zbd_val

/-! ### signet/signetref3.fault -/
def zbf_q : IQ :=
 (.seq
 (.reg 4 none [
  oP 4 (.alloc 66 [.int .i64 0, .slice none 0 0, .string ⟨#[]⟩, .int .i64 0, .int .i64 0])])
 (.seq
 (.reg 0 none [
  oP 5 (.mv (.t 0)),
  oP 6 (.mv (.t 1)),
  oP 7 (.build [.int .i64 0, .slice none 0 0, .string ⟨#[]⟩, .int .i64 0, .int .i64 0] [(3, 1, (.t 5)), (4, 1, (.t 6))]),
  ⟨none, .store 5 (.t 4) (.t 7), none⟩])
 (.canon [(4, some 1, .node, 36)] [4] .ret)))
theorem zbf_chk : chk Tryd.prog 54 [] = some (zbf_q.erase, [.cell 4 (some 5)], 8) := by kernel_rfl
def zbf_s (e : Int) (at_ : Int) : Option signetref3_Got :=
 some (⟨(0 : Int), [], (⟨#[]⟩ : ByteArray), e, at_⟩ : signetref3_Got)
def zbf_G : Nat → Option CQ := tblQ []
theorem zbf_Gok : ∀ f C, zbf_G f = some C → ValidQ Tryd.prog f C := fun f C h => by cases h
def zbf_L : Nat → SubQ := tblL []
theorem zbf_subs : subsOK zbf_L zbf_G 0 5 8 zbf_q := subs_of (show AllSub zbf_L zbf_G 0 5 8 [] from trivial)
theorem zbf_eq (e : Int) (at_ : Int) (R : Type) (k : SV → List SB → Option R) :
  fnQ zbf_L zbf_G 5 8 zbf_q [.cell 4 (some 5)] [.c (.o (.val (.int .i64 e))), .c (.o (.val (.int .i64 at_)))] [] k = (zbf_s e at_).bind fun r => k (.c (.agg [.val (.int .i64 r.at_), .own 0, .val (.string r.s), .val (.int .i64 r.code), .val (.int .i64 r.bad)])) [.row .node 36 r.l] := by
 simp only [zbf_s, -eq_self, bind_cond, bind_gd, Option.bind_assoc, obS, Sum.elim_inl, Sum.elim_inr, bind_elim]
 kernel_rfl
def zbf_da := (dCons (dVC (dCO (dI .i64))) (dCons (dVC (dCO (dI .i64))) dNil))
def zbf_db := (dNil : Dec Unit (List SB))
def zbf_c : CS := fun args hp R k => (Dec.d zbf_da args).bind fun x => (Dec.d zbf_db hp).bind fun y => (zbf_s x.1 x.2.1).bind fun r => k (.c (.agg [.val (.int .i64 r.at_), .own 0, .val (.string r.s), .val (.int .i64 r.code), .val (.int .i64 r.bad)])) [.row .node 36 r.l]
theorem zbf_val : ValidS Tryd.prog 54 zbf_c :=
 val_ok zbf_chk 5 zbf_Gok zbf_da zbf_db 0 (fun x y R k => (zbf_s x.1 x.2.1).bind fun r => k (.c (.agg [.val (.int .i64 r.at_), .own 0, .val (.string r.s), .val (.int .i64 r.code), .val (.int .i64 r.bad)])) [.row .node 36 r.l]) (by kernel_rfl)
  (fun x y R k => by simp only [Option.bind_assoc, obS]) (fun x => Nat.le_of_ble_eq_true rfl) (fun y => rfl) zbf_subs fun x y => zbf_eq x.1 x.2.1 _ _
def zbf_w : CQ := liftQ [] zbf_c
theorem zbf_ok : ValidQ Tryd.prog 54 zbf_w := liftQ_valid zbf_val

/-! ### signet/signetref3.byteAt -/
def zbe_q : IQ :=
 (.seq
 (.reg 4 none [
  oP 4 (.mv (.v (.int .i64 0)))])
 (.seq
 (.seq
 (.reg 8 none [
  oP 5 (.mv (.t 1)),
  oP 6 (.mv (.t 0)),
  oP 7 (.lenS (.t 6)),
  oP 8 (.bin false .geq (.t 5) (.t 7))])
 (.cond (.t 8)
  (.seq
  (.reg 4 none [
   oP 4 (.mv (.v (.int .i64 (-1))))])
  (.canon [] [4] .ret))
  .skip))
 (.seq
 (.reg 4 none [
  oP 9 (.mv (.t 0)),
  oP 10 (.mv (.t 1)),
  oP 11 (.index (.t 9) (.t 10)),
  oP 12 (.conv false .i64 (.t 11)),
  oP 4 (.mv (.t 12))])
 (.canon [] [4] .ret))))
theorem zbe_chk : chk Tryd.prog 53 [] = some (zbe_q.erase, [.tmp 4], 13) := by kernel_rfl
def zbe_s (t : ByteArray) (at_ : Int) : Option Int :=
 bif decide ((t.size : Int) ≤ at_) then (
  some (-1 : Int))
 else (
  gd (0 ≤ at_ ∧ at_ < t.size) <|
  gd (InI64 (bAt t at_)) <|
  some (bAt t at_))
def zbe_G : Nat → Option CQ := tblQ []
theorem zbe_Gok : ∀ f C, zbe_G f = some C → ValidQ Tryd.prog f C := fun f C h => by cases h
def zbe_L : Nat → SubQ := tblL []
theorem zbe_subs : subsOK zbe_L zbe_G 0 5 13 zbe_q := subs_of (show AllSub zbe_L zbe_G 0 5 13 [] from trivial)
theorem zbe_eq (t : ByteArray) (at_ : Int) (R : Type) (k : SV → List SB → Option R) :
  fnQ zbe_L zbe_G 5 13 zbe_q [.tmp 4] [.c (.o (.val (.string t))), .c (.o (.val (.int .i64 at_)))] [] k = (zbe_s t at_).bind fun r => k (.c (.o (.val (.int .i64 r)))) [] := by
 simp only [zbe_s, -eq_self, bind_cond, bind_gd, Option.bind_assoc, obS, Sum.elim_inl, Sum.elim_inr, bind_elim]
 kernel_rfl
def zbe_da := (dCons (dVC (dCO dS)) (dCons (dVC (dCO (dI .i64))) dNil))
def zbe_db := (dNil : Dec Unit (List SB))
def zbe_c : CS := fun args hp R k => (Dec.d zbe_da args).bind fun x => (Dec.d zbe_db hp).bind fun y => (zbe_s x.1 x.2.1).bind fun r => k (.c (.o (.val (.int .i64 r)))) []
theorem zbe_val : ValidS Tryd.prog 53 zbe_c :=
 val_ok zbe_chk 5 zbe_Gok zbe_da zbe_db 0 (fun x y R k => (zbe_s x.1 x.2.1).bind fun r => k (.c (.o (.val (.int .i64 r)))) []) (by kernel_rfl)
  (fun x y R k => by simp only [Option.bind_assoc, obS]) (fun x => Nat.le_of_ble_eq_true rfl) (fun y => rfl) zbe_subs fun x y => zbe_eq x.1 x.2.1 _ _
def zbe_w : CQ := liftV [] zbe_c
theorem zbe_ok : ValidQ Tryd.prog 53 zbe_w := liftV_valid zbe_val

/-! ### signet/signetref3.sequence -/
def zbi_b0 : IQ :=
 (.loop [0, 1, 4, 5, 6, 7, 8]
  (.seq
  (.seq
  (.reg 25 none [
   oP 23 (.mv (.t 8)),
   oP 24 (.mv (.t 5)),
   oP 25 (.bin false .leq (.t 23) (.t 24))])
  (.cond (.t 25)
   .skip
   (.canon [] [0, 1, 4, 5] (.exit 0))))
  (.seq
  (.block 1
   (.seq
   (.reg 9 none [
    oP 28 (.mv (.t 0)),
    oP 29 (.mv (.t 1)),
    oP 30 (.mv (.t 8)),
    oP 31 (.bin false .add (.t 29) (.t 30)),
    oP 32 (.call 53 [(.t 28), (.t 31)]),
    oP 9 (.mv (.t 32))])
   (.seq
   (.seq
   (.reg 34 none [
    oP 33 (.mv (.t 9)),
    oP 34 (.bin false .lss (.t 33) (.v (.int .i64 0)))])
   (.cond (.t 34)
    (.seq
    (.reg 0 none [
     oP 35 (.mv (.t 0)),
     oP 36 (.lenS (.t 35)),
     oP 37 (.call 54 [(.v (.int .i64 31)), (.t 36)]),
     ⟨none, .store 5 (.t 4) (.t 37), none⟩])
    (.canon [(4, some 1, .node, 36)] [4] .ret))
    .skip))
   (.seq
   (.seq
   (.reg 45 none [
    oP 38 (.mv (.t 9)),
    oP 39 (.mv (.t 6)),
    oP 40 (.bin false .lss (.t 38) (.t 39)),
    oP 41 (.mv (.t 40)),
    oG 42 (.mv (.t 9)) 41 false,
    oG 43 (.mv (.t 7)) 41 false,
    oG 44 (.bin false .gtr (.t 42) (.t 43)) 41 false,
    oP 45 (.pick (.t 41) (.v (.bool true)) (.t 44))])
   (.cond (.t 45)
    (.seq
    (.reg 0 none [
     oP 46 (.mv (.t 1)),
     oP 47 (.call 54 [(.v (.int .i64 32)), (.t 46)]),
     ⟨none, .store 5 (.t 4) (.t 47), none⟩])
    (.canon [(4, some 1, .node, 36)] [4] .ret))
    .skip))
   (.seq
   (.reg 6 none [
    oP 6 (.mv (.v (.int .i64 128)))])
   (.reg 7 none [
    oP 7 (.mv (.v (.int .i64 191)))]))))))
  (.reg 8 none [
   oP 26 (.mv (.t 8)),
   oP 27 (.bin false .add (.t 26) (.v (.int .i64 1))),
   oP 8 (.mv (.t 27))]))))
def zbi_q : IQ :=
 (.seq
 (.reg 4 none [
  oP 4 (.alloc 66 [.int .i64 0, .slice none 0 0, .string ⟨#[]⟩, .int .i64 0, .int .i64 0])])
 (.seq
 (.reg 7 none [
  oP 11 (.mv (.t 0)),
  oP 12 (.mv (.t 1)),
  oP 13 (.index (.t 11) (.t 12)),
  oP 14 (.conv false .i64 (.t 13)),
  oP 15 (.call 92 [(.t 14)]),
  oP 10 (.mv (.t 15)),
  oP 16 (.extract (.t 10) 0),
  oP 17 (.extract (.t 10) 1),
  oP 18 (.extract (.t 10) 2),
  oP 5 (.mv (.t 16)),
  oP 6 (.mv (.t 17)),
  oP 7 (.mv (.t 18))])
 (.seq
 (.seq
 (.reg 20 none [
  oP 19 (.mv (.t 5)),
  oP 20 (.bin false .lss (.t 19) (.v (.int .i64 0)))])
 (.cond (.t 20)
  (.seq
  (.reg 0 none [
   oP 21 (.mv (.t 1)),
   oP 22 (.call 54 [(.v (.int .i64 32)), (.t 21)]),
   ⟨none, .store 5 (.t 4) (.t 22), none⟩])
  (.canon [(4, some 1, .node, 36)] [4] .ret))
  .skip))
 (.seq
 (.seq
 (.reg 8 none [
  oP 8 (.mv (.v (.int .i64 1)))])
 (.block 0
  (.canon [] [0, 1, 4, 5, 6, 7, 8] (.sub 0 zbi_b0))))
 (.seq
 (.reg 0 none [
  oP 48 (.mv (.t 1)),
  oP 49 (.mv (.t 5)),
  oP 50 (.bin false .add (.t 48) (.t 49)),
  oP 51 (.bin false .add (.t 50) (.v (.int .i64 1))),
  oP 52 (.mv (.t 0)),
  oP 53 (.mv (.t 1)),
  oP 54 (.mv (.t 1)),
  oP 55 (.mv (.t 5)),
  oP 56 (.bin false .add (.t 54) (.t 55)),
  oP 57 (.bin false .add (.t 56) (.v (.int .i64 1))),
  oP 58 (.sub none (.t 52) (some (.t 53)) (some (.t 57))),
  oP 59 (.build [.int .i64 0, .slice none 0 0, .string ⟨#[]⟩, .int .i64 0, .int .i64 0] [(0, 1, (.t 51)), (2, 1, (.t 58))]),
  ⟨none, .store 5 (.t 4) (.t 59), none⟩])
 (.canon [(4, some 1, .node, 36)] [4] .ret))))))
theorem zbi_chk : chk Tryd.prog 76 [] = some (zbi_q.erase, [.cell 4 (some 5)], 60) := by kernel_rfl
def zbi_p0_step (t : ByteArray) (at_ : Int) (n : Int) (low : Int) (high : Int) (i : Int) : Option ((Int × Int × Int) ⊕ ((Int × ByteArray × Int × Int × (List Eng.Node)) ⊕ Unit)) :=
 bif decide (i ≤ n) then (
  gd (InI64 (at_ + i)) <|
  (zbe_s t (at_ + i)).bind fun r18 =>
  bif decide (r18 < (0 : Int)) then (
   (zbf_s (31 : Int) (t.size : Int)).bind fun r19 =>
   some (.inr (.inl (r19.at_, r19.s, r19.code, r19.bad, r19.l))))
  else (
   bif ((decide (r18 < low)) || (decide (high < r18))) then (
    (zbf_s (32 : Int) at_).bind fun r20 =>
    some (.inr (.inl (r20.at_, r20.s, r20.code, r20.bad, r20.l))))
   else (
    gd (InI64 (i + (1 : Int))) <|
    some (.inl ((128 : Int), (191 : Int), (i + (1 : Int)))))))
 else (
  some (.inr (.inr ())))
def zbi_p0 (t : ByteArray) (at_ : Int) (n : Int) (low : Int) (high : Int) (i : Int) : Option ((Int × ByteArray × Int × Int × (List Eng.Node)) ⊕ Unit) :=
 whileO (fun x : (Int × Int × Int) => zbi_p0_step t at_ n x.1 x.2.1 x.2.2) (low, high, i)
def zbi_s (t : ByteArray) (at_ : Int) : Option signetref3_Got :=
 gd (0 ≤ at_ ∧ at_ < t.size) <|
 gd (InI64 (bAt t at_)) <|
 (zbd_s (bAt t at_)).bind fun r16 =>
 bif decide (r16.1 < (0 : Int)) then (
  (zbf_s (32 : Int) at_).bind fun r17 =>
  some r17)
 else (
  (zbi_p0 t at_ r16.1 r16.2.1 r16.2.2 (1 : Int)).bind fun o21 => (Sum.elim (fun (o21_0 : Int × ByteArray × Int × Int × (List Eng.Node)) =>
   some (⟨o21_0.1, o21_0.2.2.2.2, o21_0.2.1, o21_0.2.2.1, o21_0.2.2.2.1⟩ : signetref3_Got)) (fun (o21_1 : Unit) =>
   gd (InI64 (at_ + r16.1)) <|
   gd (InI64 ((at_ + r16.1) + (1 : Int))) <|
   gd (InI64 (at_ + r16.1)) <|
   gd (InI64 ((at_ + r16.1) + (1 : Int))) <|
   gd (0 ≤ at_ ∧ at_ ≤ ((at_ + r16.1) + (1 : Int)) ∧ ((at_ + r16.1) + (1 : Int)) ≤ t.size) <|
   some (⟨((at_ + r16.1) + (1 : Int)), [], (t.extract (Int.toNat at_) (Int.toNat ((at_ + r16.1) + (1 : Int)))), (0 : Int), (0 : Int)⟩ : signetref3_Got))) o21)
def zbi_G : Nat → Option CQ := tblQ [(92, zbd_w), (54, zbf_w), (53, zbe_w)]
theorem zbi_Gok : ∀ f C, zbi_G f = some C → ValidQ Tryd.prog f C := tblQ_valid ⟨zbd_ok, zbf_ok, zbe_ok, trivial⟩
def zbi_d0 := (dQS (dCons (dSl 0 (dVC (dCO dS))) (dCons (dSl 1 (dVC (dCO (dI .i64)))) (dCons (dSl 4 (dVC (dCO (dH 0 0)))) (dCons (dSl 5 (dVC (dCO (dI .i64)))) (dCons (dSl 6 (dVC (dCO (dI .i64)))) (dCons (dSl 7 (dVC (dCO (dI .i64)))) (dCons (dSl 8 (dVC (dCO (dI .i64)))) dNil))))))) (dCons (dCells 66 (dCons (dI .i64) (dCons dNS (dCons dS (dCons (dI .i64) (dCons (dI .i64) dNil)))))) dNil))
def zbi_l0 : SubQ := fun S R kn kx kr => (Dec.d zbi_d0 S).bind fun x => (zbi_p0 x.1.1 x.1.2.1 x.1.2.2.2.1 x.1.2.2.2.2.1 x.1.2.2.2.2.2.1 x.1.2.2.2.2.2.2.1).bind fun r => (Sum.elim (fun (r_0 : Int × ByteArray × Int × Int × (List Eng.Node)) => kr ⟨[(4, [], .c (.o (.hd 0 0)))], [], [.cells 66 [.val (.int .i64 r_0.1), .own 1, .val (.string r_0.2.1), .val (.int .i64 r_0.2.2.1), .val (.int .i64 r_0.2.2.2.1)], .row .node 36 r_0.2.2.2.2]⟩) (fun (r_1 : Unit) => kx 0 ⟨[(0, [], .c (.o (.val (.string x.1.1)))), (1, [], .c (.o (.val (.int .i64 x.1.2.1)))), (4, [], .c (.o (.hd 0 0))), (5, [], .c (.o (.val (.int .i64 x.1.2.2.2.1))))], [], [.cells 66 [.val (.int .i64 x.2.1.1), .val (.slice none 0 0), .val (.string x.2.1.2.2.1), .val (.int .i64 x.2.1.2.2.2.1), .val (.int .i64 x.2.1.2.2.2.2.1)]]⟩)) r
def zbi_L : Nat → SubQ := tblL [(0, zbi_l0)]
theorem zbi_p0_eq (t : ByteArray) (at_ : Int) (n : Int) (low : Int) (high : Int) (i : Int) (res_At : Int) (res_S : ByteArray) (res_Code : Int) (res_Bad : Int) (R : Type) (kn : QS → Option R) (kx : Nat → QS → Option R) (kr : QS → Option R) :
  interpQ zbi_L zbi_G 0 10 60 zbi_b0 ⟨[(0, [], .c (.o (.val (.string t)))), (1, [], .c (.o (.val (.int .i64 at_)))), (4, [], .c (.o (.hd 0 0))), (5, [], .c (.o (.val (.int .i64 n)))), (6, [], .c (.o (.val (.int .i64 low)))), (7, [], .c (.o (.val (.int .i64 high)))), (8, [], .c (.o (.val (.int .i64 i))))], [], [.cells 66 [.val (.int .i64 res_At), .val (.slice none 0 0), .val (.string res_S), .val (.int .i64 res_Code), .val (.int .i64 res_Bad)]]⟩ kn kx kr = (zbi_p0 t at_ n low high i).bind fun r => (Sum.elim (fun (r_0 : Int × ByteArray × Int × Int × (List Eng.Node)) => kr ⟨[(4, [], .c (.o (.hd 0 0)))], [], [.cells 66 [.val (.int .i64 r_0.1), .own 1, .val (.string r_0.2.1), .val (.int .i64 r_0.2.2.1), .val (.int .i64 r_0.2.2.2.1)], .row .node 36 r_0.2.2.2.2]⟩) (fun (r_1 : Unit) => kx 0 ⟨[(0, [], .c (.o (.val (.string t)))), (1, [], .c (.o (.val (.int .i64 at_)))), (4, [], .c (.o (.hd 0 0))), (5, [], .c (.o (.val (.int .i64 n))))], [], [.cells 66 [.val (.int .i64 res_At), .val (.slice none 0 0), .val (.string res_S), .val (.int .i64 res_Code), .val (.int .i64 res_Bad)]]⟩)) r := by
 refine loop_piece (step := fun x => zbi_p0_step t at_ n x.1 x.2.1 x.2.2) (enc := fun x => ⟨[(0, [], .c (.o (.val (.string t)))), (1, [], .c (.o (.val (.int .i64 at_)))), (4, [], .c (.o (.hd 0 0))), (5, [], .c (.o (.val (.int .i64 n)))), (6, [], .c (.o (.val (.int .i64 x.1)))), (7, [], .c (.o (.val (.int .i64 x.2.1)))), (8, [], .c (.o (.val (.int .i64 x.2.2))))], [], [.cells 66 [.val (.int .i64 res_At), .val (.slice none 0 0), .val (.string res_S), .val (.int .i64 res_Code), .val (.int .i64 res_Bad)]]⟩) (ko := fun r => (Sum.elim (fun (r_0 : Int × ByteArray × Int × Int × (List Eng.Node)) => kr ⟨[(4, [], .c (.o (.hd 0 0)))], [], [.cells 66 [.val (.int .i64 r_0.1), .own 1, .val (.string r_0.2.1), .val (.int .i64 r_0.2.2.1), .val (.int .i64 r_0.2.2.2.1)], .row .node 36 r_0.2.2.2.2]⟩) (fun (r_1 : Unit) => kx 0 ⟨[(0, [], .c (.o (.val (.string t)))), (1, [], .c (.o (.val (.int .i64 at_)))), (4, [], .c (.o (.hd 0 0))), (5, [], .c (.o (.val (.int .i64 n))))], [], [.cells 66 [.val (.int .i64 res_At), .val (.slice none 0 0), .val (.string res_S), .val (.int .i64 res_Code), .val (.int .i64 res_Bad)]]⟩)) r) ?_ ?_ (low, high, i)
 ·intro x; kernel_rfl
 ·intro x ki; simp only [zbi_p0_step, -eq_self, bind_cond, bind_gd, Option.bind_assoc, obS, Sum.elim_inl, Sum.elim_inr, bind_elim]; kernel_rfl
theorem zbi_sub0 : SubOK zbi_L zbi_G 0 10 60 0 zbi_b0 := sub_ok' zbi_d0 (fun x R kn kx kr => (zbi_p0 x.1.1 x.1.2.1 x.1.2.2.2.1 x.1.2.2.2.2.1 x.1.2.2.2.2.2.1 x.1.2.2.2.2.2.2.1).bind fun r => (Sum.elim (fun (r_0 : Int × ByteArray × Int × Int × (List Eng.Node)) => kr ⟨[(4, [], .c (.o (.hd 0 0)))], [], [.cells 66 [.val (.int .i64 r_0.1), .own 1, .val (.string r_0.2.1), .val (.int .i64 r_0.2.2.1), .val (.int .i64 r_0.2.2.2.1)], .row .node 36 r_0.2.2.2.2]⟩) (fun (r_1 : Unit) => kx 0 ⟨[(0, [], .c (.o (.val (.string x.1.1)))), (1, [], .c (.o (.val (.int .i64 x.1.2.1)))), (4, [], .c (.o (.hd 0 0))), (5, [], .c (.o (.val (.int .i64 x.1.2.2.2.1))))], [], [.cells 66 [.val (.int .i64 x.2.1.1), .val (.slice none 0 0), .val (.string x.2.1.2.2.1), .val (.int .i64 x.2.1.2.2.2.1), .val (.int .i64 x.2.1.2.2.2.2.1)]]⟩)) r) (by kernel_rfl) fun x R kn kx kr => zbi_p0_eq x.1.1 x.1.2.1 x.1.2.2.2.1 x.1.2.2.2.2.1 x.1.2.2.2.2.2.1 x.1.2.2.2.2.2.2.1 x.2.1.1 x.2.1.2.2.1 x.2.1.2.2.2.1 x.2.1.2.2.2.2.1 R kn kx kr
theorem zbi_subs : subsOK zbi_L zbi_G 0 10 60 zbi_q := subs_of (show AllSub zbi_L zbi_G 0 10 60 [(0, zbi_b0)] from ⟨zbi_sub0, trivial⟩)
theorem zbi_eq (t : ByteArray) (at_ : Int) (R : Type) (k : SV → List SB → Option R) :
  fnQ zbi_L zbi_G 10 60 zbi_q [.cell 4 (some 5)] [.c (.o (.val (.string t))), .c (.o (.val (.int .i64 at_)))] [] k = (zbi_s t at_).bind fun r => k (.c (.agg [.val (.int .i64 r.at_), .own 0, .val (.string r.s), .val (.int .i64 r.code), .val (.int .i64 r.bad)])) [.row .node 36 r.l] := by
 simp only [zbi_s, -eq_self, bind_cond, bind_gd, Option.bind_assoc, obS, Sum.elim_inl, Sum.elim_inr, bind_elim]
 kernel_rfl
def zbi_da := (dCons (dVC (dCO dS)) (dCons (dVC (dCO (dI .i64))) dNil))
def zbi_db := (dNil : Dec Unit (List SB))
def zbi_c : CS := fun args hp R k => (Dec.d zbi_da args).bind fun x => (Dec.d zbi_db hp).bind fun y => (zbi_s x.1 x.2.1).bind fun r => k (.c (.agg [.val (.int .i64 r.at_), .own 0, .val (.string r.s), .val (.int .i64 r.code), .val (.int .i64 r.bad)])) [.row .node 36 r.l]
theorem zbi_val : ValidS Tryd.prog 76 zbi_c :=
 val_ok zbi_chk 10 zbi_Gok zbi_da zbi_db 0 (fun x y R k => (zbi_s x.1 x.2.1).bind fun r => k (.c (.agg [.val (.int .i64 r.at_), .own 0, .val (.string r.s), .val (.int .i64 r.code), .val (.int .i64 r.bad)])) [.row .node 36 r.l]) (by kernel_rfl)
  (fun x y R k => by simp only [Option.bind_assoc, obS]) (fun x => Nat.le_of_ble_eq_true rfl) (fun y => rfl) zbi_subs fun x y => zbi_eq x.1 x.2.1 _ _
def zbi_w : CQ := liftQ [] zbi_c
theorem zbi_ok : ValidQ Tryd.prog 76 zbi_w := liftQ_valid zbi_val

/-! ### signet/signetref3.utf -/
def zbk_b0 : IQ :=
 (.loop [0, 3]
  (.seq
  (.seq
  (.reg 8 none [
   oP 5 (.mv (.t 3)),
   oP 6 (.mv (.t 0)),
   oP 7 (.lenS (.t 6)),
   oP 8 (.bin false .lss (.t 5) (.t 7))])
  (.cond (.t 8)
   .skip
   (.canon [] [] (.exit 0))))
  (.block 1
   (.seq
   (.seq
   (.reg 12 none [
    oP 9 (.mv (.t 0)),
    oP 10 (.mv (.t 3)),
    oP 11 (.index (.t 9) (.t 10)),
    oP 12 (.bin false .lss (.t 11) (.v (.int .u8 128)))])
   (.cond (.t 12)
    (.seq
    (.reg 3 none [
     oP 13 (.mv (.t 3)),
     oP 14 (.bin false .add (.t 13) (.v (.int .i64 1))),
     oP 3 (.mv (.t 14))])
    (.exit 1))
    .skip))
   (.seq
   (.reg 0 none [
    oP 15 (.mv (.t 0)),
    oP 16 (.mv (.t 3)),
    oP 17 (.call 76 [(.t 15), (.t 16)]),
    oP 4 (.alloc 66 [.int .i64 0, .slice none 0 0, .string ⟨#[]⟩, .int .i64 0, .int .i64 0]),
    ⟨none, .store 5 (.t 4) (.t 17), none⟩])
   (.seq
   (.seq
   (.reg 20 none [
    oP 18 (.faddr 3 (.t 4)),
    oP 19 (.load none (.t 18)),
    oP 20 (.bin false .neq (.t 19) (.v (.int .i64 0)))])
   (.cond (.t 20)
    (.seq
    (.reg 2 none [
     oP 2 (.mv (.v (.bool false)))])
    (.canon [] [2] .ret))
    .skip))
   (.reg 3 none [
    oP 21 (.faddr 0 (.t 4)),
    oP 22 (.load none (.t 21)),
    oP 3 (.mv (.t 22))])))))))
def zbk_q : IQ :=
 (.seq
 (.reg 2 none [
  oP 2 (.mv (.v (.bool false)))])
 (.seq
 (.reg 3 none [
  oP 3 (.mv (.v (.int .i64 0)))])
 (.seq
 (.block 0
  (.canon [] [0, 3] (.sub 0 zbk_b0)))
 (.seq
 (.reg 2 none [
  oP 2 (.mv (.v (.bool true)))])
 (.canon [] [2] .ret)))))
theorem zbk_chk : chk Tryd.prog 72 [] = some (zbk_q.erase, [.tmp 2], 23) := by kernel_rfl
def zbk_p0_step (s : ByteArray) (at_ : Int) : Option (Int ⊕ (Bool ⊕ Unit)) :=
 bif decide (at_ < (s.size : Int)) then (
  gd (0 ≤ at_ ∧ at_ < s.size) <|
  bif decide ((bAt s at_) < (128 : Int)) then (
   gd (InI64 (at_ + (1 : Int))) <|
   some (.inl (at_ + (1 : Int))))
  else (
   (zbi_s s at_).bind fun r1 =>
   bif (!decide (r1.code = (0 : Int))) then (
    some (.inr (.inl false)))
   else (
    some (.inl r1.at_))))
 else (
  some (.inr (.inr ())))
def zbk_p0 (s : ByteArray) (at_ : Int) : Option (Bool ⊕ Unit) :=
 whileO (fun x : Int => zbk_p0_step s x) at_
def zbk_s (s : ByteArray) : Option Bool :=
 (zbk_p0 s (0 : Int)).bind fun o2 => (Sum.elim (fun (o2_0 : Bool) =>
  some o2_0) (fun (o2_1 : Unit) =>
  some true)) o2
def zbk_G : Nat → Option CQ := tblQ [(76, zbi_w)]
theorem zbk_Gok : ∀ f C, zbk_G f = some C → ValidQ Tryd.prog f C := tblQ_valid ⟨zbi_ok, trivial⟩
def zbk_d0 := (dQS (dCons (dSl 0 (dVC (dCO dS))) (dCons (dSl 3 (dVC (dCO (dI .i64)))) dNil)) dNil)
def zbk_l0 : SubQ := fun S R kn kx kr => (Dec.d zbk_d0 S).bind fun x => (zbk_p0 x.1.1 x.1.2.1).bind fun r => (Sum.elim (fun (r_0 : Bool) => kr ⟨[(2, [], .c (.o (.val (.bool r_0))))], [], []⟩) (fun (r_1 : Unit) => kx 0 ⟨[], [], []⟩)) r
def zbk_L : Nat → SubQ := tblL [(0, zbk_l0)]
theorem zbk_p0_eq (s : ByteArray) (at_ : Int) (R : Type) (kn : QS → Option R) (kx : Nat → QS → Option R) (kr : QS → Option R) :
  interpQ zbk_L zbk_G 0 5 23 zbk_b0 ⟨[(0, [], .c (.o (.val (.string s)))), (3, [], .c (.o (.val (.int .i64 at_))))], [], []⟩ kn kx kr = (zbk_p0 s at_).bind fun r => (Sum.elim (fun (r_0 : Bool) => kr ⟨[(2, [], .c (.o (.val (.bool r_0))))], [], []⟩) (fun (r_1 : Unit) => kx 0 ⟨[], [], []⟩)) r := by
 refine loop_piece (step := fun x => zbk_p0_step s x) (enc := fun x => ⟨[(0, [], .c (.o (.val (.string s)))), (3, [], .c (.o (.val (.int .i64 x))))], [], []⟩) (ko := fun r => (Sum.elim (fun (r_0 : Bool) => kr ⟨[(2, [], .c (.o (.val (.bool r_0))))], [], []⟩) (fun (r_1 : Unit) => kx 0 ⟨[], [], []⟩)) r) ?_ ?_ at_
 ·intro x; kernel_rfl
 ·intro x ki; simp only [zbk_p0_step, -eq_self, bind_cond, bind_gd, Option.bind_assoc, obS, Sum.elim_inl, Sum.elim_inr, bind_elim]; kernel_rfl
theorem zbk_sub0 : SubOK zbk_L zbk_G 0 5 23 0 zbk_b0 := sub_ok' zbk_d0 (fun x R kn kx kr => (zbk_p0 x.1.1 x.1.2.1).bind fun r => (Sum.elim (fun (r_0 : Bool) => kr ⟨[(2, [], .c (.o (.val (.bool r_0))))], [], []⟩) (fun (r_1 : Unit) => kx 0 ⟨[], [], []⟩)) r) (by kernel_rfl) fun x R kn kx kr => zbk_p0_eq x.1.1 x.1.2.1 R kn kx kr
theorem zbk_subs : subsOK zbk_L zbk_G 0 5 23 zbk_q := subs_of (show AllSub zbk_L zbk_G 0 5 23 [(0, zbk_b0)] from ⟨zbk_sub0, trivial⟩)
theorem zbk_eq (s : ByteArray) (R : Type) (k : SV → List SB → Option R) :
  fnQ zbk_L zbk_G 5 23 zbk_q [.tmp 2] [.c (.o (.val (.string s)))] [] k = (zbk_s s).bind fun r => k (.c (.o (.val (.bool r)))) [] := by
 simp only [zbk_s, -eq_self, bind_cond, bind_gd, Option.bind_assoc, obS, Sum.elim_inl, Sum.elim_inr, bind_elim]
 kernel_rfl
def zbk_da := (dCons (dVC (dCO dS)) dNil)
def zbk_db := (dNil : Dec Unit (List SB))
def zbk_c : CS := fun args hp R k => (Dec.d zbk_da args).bind fun x => (Dec.d zbk_db hp).bind fun y => (zbk_s x.1).bind fun r => k (.c (.o (.val (.bool r)))) []
theorem zbk_val : ValidS Tryd.prog 72 zbk_c :=
 val_ok zbk_chk 5 zbk_Gok zbk_da zbk_db 0 (fun x y R k => (zbk_s x.1).bind fun r => k (.c (.o (.val (.bool r)))) []) (by kernel_rfl)
  (fun x y R k => by simp only [Option.bind_assoc, obS]) (fun x => Nat.le_of_ble_eq_true rfl) (fun y => rfl) zbk_subs fun x y => zbk_eq x.1 _ _
def zbk_w : CQ := liftV [] zbk_c
theorem zbk_ok : ValidQ Tryd.prog 72 zbk_w := liftV_valid zbk_val

/-! ### signet/signetref3.plain -/
def zbg_q : IQ :=
 (.seq
 (.reg 2 none [
  oP 1 (.box 36 6 (.t 0)),
  oP 2 (.mv (.v (.bool false)))])
 (.seq
 (.reg 3 none [
  oP 8 (.faddr 0 (.t 1)),
  oP 9 (.load none (.t 8)),
  oP 3 (.mv (.t 9))])
 (.seq
 (.seq
 (.reg 29 none [
  oP 10 (.mv (.t 3)),
  oP 11 (.bin false .lss (.t 10) (.v (.int .i64 1))),
  oP 12 (.mv (.t 11)),
  oG 13 (.mv (.t 3)) 12 false,
  oG 14 (.bin false .gtr (.t 13) (.v (.int .i64 7))) 12 false,
  oP 15 (.pick (.t 12) (.v (.bool true)) (.t 14)),
  oP 16 (.mv (.t 15)),
  oG 17 (.faddr 5 (.t 1)) 16 false,
  oG 18 (.load none (.t 17)) 16 false,
  oG 19 (.bin false .lss (.t 18) (.v (.int .i64 0))) 16 false,
  oP 20 (.pick (.t 16) (.v (.bool true)) (.t 19)),
  oP 21 (.mv (.t 20)),
  oG 22 (.faddr 5 (.t 1)) 21 false,
  oG 23 (.load none (.t 22)) 21 false,
  oG 24 (.bin false .gtr (.t 23) (.v (.int .i64 0))) 21 false,
  oG 25 (.mv (.t 24)) 21 false,
  oG 26 (.mv (.t 3)) 25 true,
  oG 27 (.bin false .lss (.t 26) (.v (.int .i64 6))) 25 true,
  oG 28 (.pick (.t 25) (.t 27) (.v (.bool false))) 21 false,
  oP 29 (.pick (.t 21) (.v (.bool true)) (.t 28))])
 (.cond (.t 29)
  (.seq
  (.reg 2 none [
   oP 2 (.mv (.v (.bool false)))])
  (.canon [] [2] .ret))
  .skip))
 (.seq
 (.reg 5 none [
  oP 31 (.faddr 2 (.t 1)),
  oP 32 (.load none (.t 31)),
  oP 33 (.call 78 [(.t 32)]),
  oP 30 (.mv (.t 33)),
  oP 34 (.extract (.t 30) 0),
  oP 35 (.extract (.t 30) 1),
  oP 4 (.mv (.t 34)),
  oP 5 (.mv (.t 35))])
 (.seq
 (.reg 6 none [
  oP 36 (.faddr 2 (.t 1)),
  oP 37 (.load none (.t 36)),
  oP 38 (.call 89 [(.t 37)]),
  oP 6 (.mv (.t 38))])
 (.seq
 (.reg 7 none [
  oP 39 (.faddr 2 (.t 1)),
  oP 40 (.load none (.t 39)),
  oP 41 (.call 72 [(.t 40)]),
  oP 7 (.mv (.t 41))])
 (.seq
 (.block 0
  (.seq
  (.reg 42 none [
   oP 43 (.mv (.t 3)),
   oP 44 (.bin false .eql (.t 43) (.v (.int .i64 4))),
   oP 42 (.mv (.t 44))])
  (.cond (.t 42)
   (.seq
   (.reg 2 none [
    oP 45 (.mv (.t 6)),
    oP 46 (.mv (.t 45)),
    oG 47 (.mv (.t 5)) 46 true,
    oG 48 (.faddr 3 (.t 1)) 46 true,
    oG 49 (.load none (.t 48)) 46 true,
    oG 50 (.beq false (.t 47) (.t 49)) 46 true,
    oP 51 (.pick (.t 46) (.t 50) (.v (.bool false))),
    oP 52 (.mv (.t 51)),
    oG 53 (.mv (.t 4)) 52 true,
    oG 54 (.faddr 4 (.t 1)) 52 true,
    oG 55 (.load none (.t 54)) 52 true,
    oG 56 (.bin false .eql (.t 53) (.t 55)) 52 true,
    oP 57 (.pick (.t 52) (.t 56) (.v (.bool false))),
    oP 2 (.mv (.t 57))])
   (.canon [] [2] .ret))
   (.seq
   (.reg 58 none [
    oP 59 (.faddr 3 (.t 1)),
    oP 60 (.load none (.t 59)),
    oP 61 (.mv (.t 60)),
    oG 62 (.faddr 4 (.t 1)) 61 false,
    oG 63 (.load none (.t 62)) 61 false,
    oG 64 (.bin false .neq (.t 63) (.v (.int .i64 0))) 61 false,
    oP 65 (.pick (.t 61) (.v (.bool true)) (.t 64)),
    oP 58 (.mv (.t 65))])
   (.cond (.t 58)
    (.seq
    (.reg 2 none [
     oP 2 (.mv (.v (.bool false)))])
    (.canon [] [2] .ret))
    (.seq
    (.reg 66 none [
     oP 67 (.mv (.t 3)),
     oP 68 (.bin false .eql (.t 67) (.v (.int .i64 5))),
     oP 66 (.mv (.t 68))])
    (.cond (.t 66)
     (.seq
     (.reg 2 none [
      oP 69 (.mv (.t 7)),
      oP 2 (.mv (.t 69))])
     (.canon [] [2] .ret))
     .skip)))))))
 (.seq
 (.reg 2 none [
  oP 70 (.faddr 2 (.t 1)),
  oP 71 (.load none (.t 70)),
  oP 72 (.bin false .eql (.t 71) (.v (.string ⟨#[]⟩))),
  oP 2 (.mv (.t 72))])
 (.canon [] [2] .ret)))))))))
theorem zbg_chk : chk Tryd.prog 71 [] = some (zbg_q.erase, [.tmp 2], 73) := by kernel_rfl
def zbg_s (n : Eng.Node) : Option Bool :=
 bif ((((decide (n.kind < (1 : Int))) || (decide ((7 : Int) < n.kind))) || (decide (n.kids < (0 : Int)))) || ((decide ((0 : Int) < n.kids)) && (decide (n.kind < (6 : Int))))) then (
  some false)
 else (
  (zau_s n.text).bind fun r1 =>
  (zat_s n.text).bind fun r2 =>
  (zbk_s n.text).bind fun r3 =>
  bif decide (n.kind = (4 : Int)) then (
   some ((r2 && (r1.2 == n.whole)) && (decide (r1.1 = n.int))))
  else (
   bif (n.whole || (!decide (n.int = (0 : Int)))) then (
    some false)
   else (
    bif decide (n.kind = (5 : Int)) then (
     some r3)
    else (
     some (decide (n.text = (⟨#[]⟩ : ByteArray)))))))
def zbg_G : Nat → Option CQ := tblQ [(78, zau_w), (89, zat_w), (72, zbk_w)]
theorem zbg_Gok : ∀ f C, zbg_G f = some C → ValidQ Tryd.prog f C := tblQ_valid ⟨zau_ok, zat_ok, zbk_ok, trivial⟩
def zbg_L : Nat → SubQ := tblL []
theorem zbg_subs : subsOK zbg_L zbg_G 0 8 73 zbg_q := subs_of (show AllSub zbg_L zbg_G 0 8 73 [] from trivial)
theorem zbg_eq (n : Eng.Node) (R : Type) (k : SV → List SB → Option R) :
  fnQ zbg_L zbg_G 8 73 zbg_q [.tmp 2] [.c (.agg [.val (.int .i64 n.kind), .val (.string n.key), .val (.string n.text), .val (.bool n.whole), .val (.int .i64 n.int), .val (.int .i64 n.kids)])] [] k = (zbg_s n).bind fun r => k (.c (.o (.val (.bool r)))) [] := by
 simp only [zbg_s, -eq_self, bind_cond, bind_gd, Option.bind_assoc, obS, Sum.elim_inl, Sum.elim_inr, bind_elim]
 kernel_rfl
def zbg_da := (dCons (dVC (dCA (dCons (dI .i64) (dCons dS (dCons dS (dCons dB (dCons (dI .i64) (dCons (dI .i64) dNil)))))))) dNil)
def zbg_db := (dNil : Dec Unit (List SB))
def zbg_c : CS := fun args hp R k => (Dec.d zbg_da args).bind fun x => (Dec.d zbg_db hp).bind fun y => (zbg_s (⟨x.1.1, x.1.2.1, x.1.2.2.1, x.1.2.2.2.1, x.1.2.2.2.2.1, x.1.2.2.2.2.2.1⟩ : Eng.Node)).bind fun r => k (.c (.o (.val (.bool r)))) []
theorem zbg_val : ValidS Tryd.prog 71 zbg_c :=
 val_ok zbg_chk 8 zbg_Gok zbg_da zbg_db 0 (fun x y R k => (zbg_s (⟨x.1.1, x.1.2.1, x.1.2.2.1, x.1.2.2.2.1, x.1.2.2.2.2.1, x.1.2.2.2.2.2.1⟩ : Eng.Node)).bind fun r => k (.c (.o (.val (.bool r)))) []) (by kernel_rfl)
  (fun x y R k => by simp only [Option.bind_assoc, obS]) (fun x => Nat.le_of_ble_eq_true rfl) (fun y => rfl) zbg_subs fun x y => zbg_eq (⟨x.1.1, x.1.2.1, x.1.2.2.1, x.1.2.2.2.1, x.1.2.2.2.2.1, x.1.2.2.2.2.2.1⟩ : Eng.Node) _ _
def zbg_w : CQ := liftV [] zbg_c
theorem zbg_ok : ValidQ Tryd.prog 71 zbg_w := liftV_valid zbg_val

/-! ### signet/signetref3.among -/
def zbc_b0 : IQ :=
 (.loop [0, 1, 5]
  (.seq
  (.seq
  (.reg 9 none [
   oP 6 (.mv (.t 5)),
   oP 7 (.mv (.t 0)),
   oP 8 (.len (.t 7)),
   oP 9 (.bin false .lss (.t 6) (.t 8))])
  (.cond (.t 9)
   .skip
   (.canon [] [] (.exit 0))))
  (.seq
  (.block 1
   (.seq
   (.reg 17 none [
    oP 12 (.mv (.t 0)),
    oP 13 (.mv (.t 5)),
    oP 14 (.iaddr 1 (.t 12) (.t 13)),
    oP 15 (.load none (.t 14)),
    oP 16 (.mv (.t 1)),
    oP 17 (.bin false .eql (.t 15) (.t 16))])
   (.cond (.t 17)
    (.seq
    (.reg 4 none [
     oP 4 (.mv (.v (.bool true)))])
    (.canon [] [4] .ret))
    .skip)))
  (.reg 5 none [
   oP 10 (.mv (.t 5)),
   oP 11 (.bin false .add (.t 10) (.v (.int .i64 1))),
   oP 5 (.mv (.t 11))]))))
def zbc_q : IQ :=
 (.seq
 (.reg 4 none [
  oP 4 (.mv (.v (.bool false)))])
 (.seq
 (.seq
 (.reg 5 none [
  oP 5 (.mv (.v (.int .i64 0)))])
 (.block 0
  (.canon [] [0, 1, 5] (.sub 0 zbc_b0))))
 (.seq
 (.reg 4 none [
  oP 4 (.mv (.v (.bool false)))])
 (.canon [] [4] .ret))))
theorem zbc_chk : chk Tryd.prog 73 [] = some (zbc_q.erase, [.tmp 4], 18) := by kernel_rfl
def zbc_p0_step (s : ByteArray) (i : Int) (l : List ByteArray) : Option (Int ⊕ (Bool ⊕ Unit)) :=
 bif decide (i < (l.length : Int)) then (
  gd (0 ≤ i ∧ i < l.length) <|
  gd ((Int.toNat i) < l.length) <|
  bif decide ((l.getD (Int.toNat i) (ET.dft .str)) = s) then (
   some (.inr (.inl true)))
  else (
   gd (InI64 (i + (1 : Int))) <|
   some (.inl (i + (1 : Int)))))
 else (
  some (.inr (.inr ())))
def zbc_p0 (s : ByteArray) (i : Int) (l : List ByteArray) : Option (Bool ⊕ Unit) :=
 whileO (fun x : Int => zbc_p0_step s x l) i
def zbc_s (l : (List ByteArray)) (s : ByteArray) : Option Bool :=
 (zbc_p0 s (0 : Int) l).bind fun o1 => (Sum.elim (fun (o1_0 : Bool) =>
  some o1_0) (fun (o1_1 : Unit) =>
  some false)) o1
def zbc_G : Nat → Option CQ := tblQ []
theorem zbc_Gok : ∀ f C, zbc_G f = some C → ValidQ Tryd.prog f C := fun f C h => by cases h
def zbc_d0 := (dQS (dCons (dSl 0 (dVC (dCO (dO 0)))) (dCons (dSl 1 (dVC (dCO dS))) (dCons (dSl 5 (dVC (dCO (dI .i64)))) dNil))) (dCons (dView .str) dNil))
def zbc_l0 : SubQ := fun S R kn kx kr => (Dec.d zbc_d0 S).bind fun x => (zbc_p0 x.1.2.1 x.1.2.2.1 x.2.1).bind fun r => (Sum.elim (fun (r_0 : Bool) => kr ⟨[(4, [], .c (.o (.val (.bool r_0))))], [], [.view .str x.2.1]⟩) (fun (r_1 : Unit) => kx 0 ⟨[], [], [.view .str x.2.1]⟩)) r
def zbc_L : Nat → SubQ := tblL [(0, zbc_l0)]
theorem zbc_p0_eq (s : ByteArray) (i : Int) (l : List ByteArray) (R : Type) (kn : QS → Option R) (kx : Nat → QS → Option R) (kr : QS → Option R) :
  interpQ zbc_L zbc_G 1 6 18 zbc_b0 ⟨[(0, [], .c (.o (.own 0))), (1, [], .c (.o (.val (.string s)))), (5, [], .c (.o (.val (.int .i64 i))))], [], [.view .str l]⟩ kn kx kr = (zbc_p0 s i l).bind fun r => (Sum.elim (fun (r_0 : Bool) => kr ⟨[(4, [], .c (.o (.val (.bool r_0))))], [], [.view .str l]⟩) (fun (r_1 : Unit) => kx 0 ⟨[], [], [.view .str l]⟩)) r := by
 refine loop_piece (step := fun x => zbc_p0_step s x l) (enc := fun x => ⟨[(0, [], .c (.o (.own 0))), (1, [], .c (.o (.val (.string s)))), (5, [], .c (.o (.val (.int .i64 x))))], [], [.view .str l]⟩) (ko := fun r => (Sum.elim (fun (r_0 : Bool) => kr ⟨[(4, [], .c (.o (.val (.bool r_0))))], [], [.view .str l]⟩) (fun (r_1 : Unit) => kx 0 ⟨[], [], [.view .str l]⟩)) r) ?_ ?_ i
 ·intro x; kernel_rfl
 ·intro x ki; simp only [zbc_p0_step, -eq_self, bind_cond, bind_gd, Option.bind_assoc, obS, Sum.elim_inl, Sum.elim_inr, bind_elim]; kernel_rfl
theorem zbc_sub0 : SubOK zbc_L zbc_G 1 6 18 0 zbc_b0 := sub_ok' zbc_d0 (fun x R kn kx kr => (zbc_p0 x.1.2.1 x.1.2.2.1 x.2.1).bind fun r => (Sum.elim (fun (r_0 : Bool) => kr ⟨[(4, [], .c (.o (.val (.bool r_0))))], [], [.view .str x.2.1]⟩) (fun (r_1 : Unit) => kx 0 ⟨[], [], [.view .str x.2.1]⟩)) r) (by kernel_rfl) fun x R kn kx kr => zbc_p0_eq x.1.2.1 x.1.2.2.1 x.2.1 R kn kx kr
theorem zbc_subs : subsOK zbc_L zbc_G 1 6 18 zbc_q := subs_of (show AllSub zbc_L zbc_G 1 6 18 [(0, zbc_b0)] from ⟨zbc_sub0, trivial⟩)
theorem zbc_eq (l : (List ByteArray)) (s : ByteArray) (R : Type) (k : SV → List SB → Option R) :
  fnQ zbc_L zbc_G 6 18 zbc_q [.tmp 4] [.c (.o (.own 0)), .c (.o (.val (.string s)))] [.view .str l] k = (zbc_s l s).bind fun r => k (.c (.o (.val (.bool r)))) [.view .str l] := by
 simp only [zbc_s, -eq_self, bind_cond, bind_gd, Option.bind_assoc, obS, Sum.elim_inl, Sum.elim_inr, bind_elim]
 kernel_rfl
def zbc_da := (dCons (dVC (dCO (dO 0))) (dCons (dVC (dCO dS)) dNil))
def zbc_db := (dCons (dView .str) dNil)
def zbc_c : CS := fun args hp R k => (Dec.d zbc_da args).bind fun x => (Dec.d zbc_db hp).bind fun y => (zbc_s y.1 x.2.1).bind fun r => k (.c (.o (.val (.bool r)))) [.view .str y.1]
theorem zbc_val : ValidS Tryd.prog 73 zbc_c :=
 val_ok zbc_chk 6 zbc_Gok zbc_da zbc_db 1 (fun x y R k => (zbc_s y.1 x.2.1).bind fun r => k (.c (.o (.val (.bool r)))) [.view .str y.1]) (by kernel_rfl)
  (fun x y R k => by simp only [Option.bind_assoc, obS]) (fun x => Nat.le_of_ble_eq_true rfl) (fun y => rfl) zbc_subs fun x y => zbc_eq y.1 x.2.1 _ _
def zbc_w : CQ := prepQ [(0, none, some (.str, 9))] (liftV [false] zbc_c)
theorem zbc_ok : ValidQ Tryd.prog 73 zbc_w := prep_quiet zbc_val

/-! ### a group that calls itself: signet/signetref3.take -/
def zbj_da := (dCons (dVC (dCO (dO 0))) (dCons (dVC (dCO (dI .i64))) (dCons (dVC (dCO dB)) (dCons (dVC (dCO (dI .i64))) dNil))))
def zbj_db := (dCons (dView .node) dNil)
def zbj_cs (self : (List Eng.Node) → Int → Bool → Int → Option Int) : CS := fun args hp R k => (Dec.d zbj_da args).bind fun x => (Dec.d zbj_db hp).bind fun y => (self y.1 x.2.1 x.2.2.1 x.2.2.2.1).bind fun r => k (.c (.o (.val (.int .i64 r)))) [.view .node y.1]
def zbj_ws (self : (List Eng.Node) → Int → Bool → Int → Option Int) : CQ := prepQ [(0, none, some (.node, 36))] (liftV [false] (zbj_cs self))

/-! ### signet/signetref3.take -/
def zbj_b0 : IQ :=
 (.loop [0, 3, 9, 12, 13, 14]
  (.seq
  (.seq
  (.reg 58 none [
   oP 55 (.mv (.t 14)),
   oP 56 (.faddr 5 (.t 9)),
   oP 57 (.load none (.t 56)),
   oP 58 (.bin false .lss (.t 55) (.t 57))])
  (.cond (.t 58)
   .skip
   (.canon [] [12] (.exit 0))))
  (.seq
  (.block 1
   (.seq
   (.reg 15 none [
    oP 61 (.mv (.t 12)),
    oP 15 (.mv (.t 61))])
   (.seq
   (.reg 12 none [
    oP 62 (.mv (.t 0)),
    oP 63 (.mv (.t 15)),
    oP 64 (.faddr 0 (.t 9)),
    oP 65 (.load none (.t 64)),
    oP 66 (.bin false .eql (.t 65) (.v (.int .i64 7))),
    oP 67 (.mv (.t 3)),
    oP 68 (.bin false .add (.t 67) (.v (.int .i64 1))),
    oP 69 (.call 52 [(.t 62), (.t 63), (.t 66), (.t 68)]),
    oP 12 (.mv (.t 69))])
   (.seq
   (.seq
   (.reg 85 none [
    oP 70 (.mv (.t 12)),
    oP 71 (.bin false .lss (.t 70) (.v (.int .i64 0))),
    oP 72 (.mv (.t 71)),
    oG 73 (.faddr 0 (.t 9)) 72 false,
    oG 74 (.load none (.t 73)) 72 false,
    oG 75 (.bin false .eql (.t 74) (.v (.int .i64 7))) 72 false,
    oG 76 (.mv (.t 75)) 72 false,
    oG 77 (.mv (.t 13)) 76 true,
    oG 78 (.mv (.t 0)) 76 true,
    oG 79 (.mv (.t 15)) 76 true,
    oG 80 (.iaddr 6 (.t 78) (.t 79)) 76 true,
    oG 81 (.faddr 1 (.t 80)) 76 true,
    oG 82 (.load none (.t 81)) 76 true,
    oG 83 (.call 73 [(.t 77), (.t 82)]) 76 true,
    oG 84 (.pick (.t 76) (.t 83) (.v (.bool false))) 72 false,
    oP 85 (.pick (.t 72) (.v (.bool true)) (.t 84))])
   (.cond (.t 85)
    (.seq
    (.reg 8 none [
     oP 8 (.mv (.v (.int .i64 (-1))))])
    (.canon [] [8] .ret))
    .skip))
   (.reg 13 none [
    oP 86 (.mv (.t 13)),
    oP 87 (.mv (.t 0)),
    oP 88 (.mv (.t 15)),
    oP 89 (.iaddr 6 (.t 87) (.t 88)),
    oP 90 (.faddr 1 (.t 89)),
    oP 91 (.load none (.t 90)),
    oP 92 (.bslice 9 1 1 [.string ⟨#[]⟩] [(0, (.t 91))]),
    oP 93 (.append 9 1 16 [.string ⟨#[]⟩] (.t 86) (.t 92)),
    oP 13 (.mv (.t 93))])))))
  (.reg 14 none [
   oP 59 (.mv (.t 14)),
   oP 60 (.bin false .add (.t 59) (.v (.int .i64 1))),
   oP 14 (.mv (.t 60))]))))
def zbj_q : IQ :=
 (.seq
 (.reg 8 none [
  oP 8 (.mv (.v (.int .i64 0)))])
 (.seq
 (.seq
 (.reg 19 none [
  oP 16 (.mv (.t 1)),
  oP 17 (.mv (.t 0)),
  oP 18 (.len (.t 17)),
  oP 19 (.bin false .geq (.t 16) (.t 18))])
 (.cond (.t 19)
  (.seq
  (.reg 8 none [
   oP 8 (.mv (.v (.int .i64 (-1))))])
  (.canon [] [8] .ret))
  .skip))
 (.seq
 (.reg 0 none [
  oP 20 (.mv (.t 0)),
  oP 21 (.mv (.t 1)),
  oP 22 (.iaddr 6 (.t 20) (.t 21)),
  oP 23 (.load (some 6) (.t 22)),
  oP 9 (.alloc 36 [.int .i64 0, .string ⟨#[]⟩, .string ⟨#[]⟩, .bool false, .int .i64 0, .int .i64 0]),
  ⟨none, .store 6 (.t 9) (.t 23), none⟩])
 (.seq
 (.reg 10 none [
  oP 24 (.load (some 6) (.t 9)),
  oP 25 (.call 71 [(.t 24)]),
  oP 10 (.mv (.t 25))])
 (.seq
 (.reg 11 none [
  oP 26 (.faddr 1 (.t 9)),
  oP 27 (.load none (.t 26)),
  oP 28 (.call 72 [(.t 27)]),
  oP 11 (.mv (.t 28))])
 (.seq
 (.seq
 (.reg 52 none [
  oP 29 (.mv (.t 10)),
  oP 30 (.un .not (.t 29)),
  oP 31 (.mv (.t 30)),
  oG 32 (.mv (.t 11)) 31 false,
  oG 33 (.un .not (.t 32)) 31 false,
  oP 34 (.pick (.t 31) (.v (.bool true)) (.t 33)),
  oP 35 (.mv (.t 34)),
  oG 36 (.mv (.t 2)) 35 false,
  oG 37 (.un .not (.t 36)) 35 false,
  oG 38 (.mv (.t 37)) 35 false,
  oG 39 (.faddr 1 (.t 9)) 38 true,
  oG 40 (.load none (.t 39)) 38 true,
  oG 41 (.bin false .neq (.t 40) (.v (.string ⟨#[]⟩))) 38 true,
  oG 42 (.pick (.t 38) (.t 41) (.v (.bool false))) 35 false,
  oP 43 (.pick (.t 35) (.v (.bool true)) (.t 42)),
  oP 44 (.mv (.t 43)),
  oG 45 (.faddr 0 (.t 9)) 44 false,
  oG 46 (.load none (.t 45)) 44 false,
  oG 47 (.bin false .geq (.t 46) (.v (.int .i64 6))) 44 false,
  oG 48 (.mv (.t 47)) 44 false,
  oG 49 (.mv (.t 3)) 48 true,
  oG 50 (.bin false .eql (.t 49) (.v (.int .i64 32))) 48 true,
  oG 51 (.pick (.t 48) (.t 50) (.v (.bool false))) 44 false,
  oP 52 (.pick (.t 44) (.v (.bool true)) (.t 51))])
 (.cond (.t 52)
  (.seq
  (.reg 8 none [
   oP 8 (.mv (.v (.int .i64 (-1))))])
  (.canon [] [8] .ret))
  .skip))
 (.seq
 (.reg 12 none [
  oP 53 (.mv (.t 1)),
  oP 54 (.bin false .add (.t 53) (.v (.int .i64 1))),
  oP 12 (.mv (.t 54))])
 (.seq
 (.reg 13 none [
  oP 13 (.mv (.v (.slice none 0 0)))])
 (.seq
 (.seq
 (.reg 14 none [
  oP 14 (.mv (.v (.int .i64 0)))])
 (.block 0
  (.canon [(13, none, .str, 9)] [0, 3, 9, 12, 13, 14] (.sub 0 zbj_b0))))
 (.seq
 (.reg 8 none [
  oP 94 (.mv (.t 12)),
  oP 8 (.mv (.t 94))])
 (.canon [] [8] .ret)))))))))))
theorem zbj_chk : chk Tryd.prog 52 [] = some (zbj_q.erase, [.tmp 8], 95) := by kernel_rfl
def zbj_p0_step (self : (List Eng.Node) → Int → Bool → Int → Option Int) (open_ : Int) (next : Int) (i : Int) (v : List Eng.Node) (n_Kind : Int) (n_Kids : Int) (names : List ByteArray) : Option ((Int × Int × (List ByteArray)) ⊕ (Int ⊕ Int)) :=
 bif decide (i < n_Kids) then (
  gd (InI64 (open_ + (1 : Int))) <|
  (self v next (decide (n_Kind = (7 : Int))) (open_ + (1 : Int))).bind fun r19 =>
  gd ((decide (n_Kind = (7 : Int))) = true → (decide (r19 < (0 : Int))) = false → 0 ≤ next ∧ next < v.length) <|
  gd ((decide (n_Kind = (7 : Int))) = true → (decide (r19 < (0 : Int))) = false → (Int.toNat next) < v.length) <|
  gd ((decide (n_Kind = (7 : Int))) = true → (decide (r19 < (0 : Int))) = false → (Int.toNat next) < v.length) <|
  bif decide (r19 < (0 : Int)) then (
   some (.inr (.inl (-1 : Int))))
  else (
   bif decide (n_Kind = (7 : Int)) then (
    (zbc_s names ((v.getD (Int.toNat next) (ET.dft .node)).key)).bind fun r20 =>
    bif r20 then (
     some (.inr (.inl (-1 : Int))))
    else (
     gd (0 ≤ next ∧ next < v.length) <|
     gd ((Int.toNat next) < v.length) <|
     gd ((Int.toNat next) < v.length) <|
     gd (names.length + ([(v.getD (Int.toNat next) (ET.dft .node)).key] : List ByteArray).length ≤ 9223372036854775807 ∧ (names.length + ([(v.getD (Int.toNat next) (ET.dft .node)).key] : List ByteArray).length) * 16 ≤ 140737488355328) <|
     gd (InI64 (i + (1 : Int))) <|
     some (.inl (r19, (i + (1 : Int)), (names ++ [(v.getD (Int.toNat next) (ET.dft .node)).key])))))
   else (
    gd (0 ≤ next ∧ next < v.length) <|
    gd ((Int.toNat next) < v.length) <|
    gd ((Int.toNat next) < v.length) <|
    gd (names.length + ([(v.getD (Int.toNat next) (ET.dft .node)).key] : List ByteArray).length ≤ 9223372036854775807 ∧ (names.length + ([(v.getD (Int.toNat next) (ET.dft .node)).key] : List ByteArray).length) * 16 ≤ 140737488355328) <|
    gd (InI64 (i + (1 : Int))) <|
    some (.inl (r19, (i + (1 : Int)), (names ++ [(v.getD (Int.toNat next) (ET.dft .node)).key]))))))
 else (
  some (.inr (.inr next)))
def zbj_p0 (self : (List Eng.Node) → Int → Bool → Int → Option Int) (open_ : Int) (next : Int) (i : Int) (v : List Eng.Node) (n_Kind : Int) (n_Kids : Int) (names : List ByteArray) : Option (Int ⊕ Int) :=
 whileO (fun x : (Int × Int × (List ByteArray)) => zbj_p0_step self open_ x.1 x.2.1 v n_Kind n_Kids x.2.2) (next, i, names)
def zbj_t (self : (List Eng.Node) → Int → Bool → Int → Option Int) (v : (List Eng.Node)) (at_ : Int) (object : Bool) (open_ : Int) : Option Int :=
 bif decide ((v.length : Int) ≤ at_) then (
  some (-1 : Int))
 else (
  gd (0 ≤ at_ ∧ at_ < v.length) <|
  gd ((Int.toNat at_) < v.length) <|
  (zbg_s (v.getD (Int.toNat at_) (ET.dft .node))).bind fun r17 =>
  (zbk_s ((v.getD (Int.toNat at_) (ET.dft .node)).key)).bind fun r18 =>
  bif ((((!r17) || (!r18)) || ((!object) && (!decide (((v.getD (Int.toNat at_) (ET.dft .node)).key) = (⟨#[]⟩ : ByteArray))))) || ((decide ((6 : Int) ≤ ((v.getD (Int.toNat at_) (ET.dft .node)).kind))) && (decide (open_ = (32 : Int))))) then (
   some (-1 : Int))
  else (
   gd (InI64 (at_ + (1 : Int))) <|
   (zbj_p0 self open_ (at_ + (1 : Int)) (0 : Int) v ((v.getD (Int.toNat at_) (ET.dft .node)).kind) ((v.getD (Int.toNat at_) (ET.dft .node)).kids) []).bind fun o21 => (Sum.elim (fun (o21_0 : Int) =>
    some o21_0) (fun (o21_1 : Int) =>
    some o21_1)) o21))
def zbj_G (self : (List Eng.Node) → Int → Bool → Int → Option Int) : Nat → Option CQ := tblQ [(71, zbg_w), (72, zbk_w), (52, zbj_ws self), (73, zbc_w)]
theorem zbj_Gok (self : (List Eng.Node) → Int → Bool → Int → Option Int) (hself : ValidQ Tryd.prog 52 (zbj_ws self)) : ∀ f C, (zbj_G self) f = some C → ValidQ Tryd.prog f C := tblQ_valid ⟨zbg_ok, zbk_ok, hself, zbc_ok, trivial⟩
def zbj_d0 := (dQS (dCons (dSl 0 (dVC (dCO (dO 0)))) (dCons (dSl 3 (dVC (dCO (dI .i64)))) (dCons (dSl 9 (dVC (dCO (dH 1 0)))) (dCons (dSl 12 (dVC (dCO (dI .i64)))) (dCons (dSl 13 (dVC (dCO (dO 2)))) (dCons (dSl 14 (dVC (dCO (dI .i64)))) dNil)))))) (dCons (dView .node) (dCons (dCells 36 (dCons (dI .i64) (dCons dS (dCons dS (dCons dB (dCons (dI .i64) (dCons (dI .i64) dNil))))))) (dCons (dRow .str 9) dNil))))
def zbj_l0 (self : (List Eng.Node) → Int → Bool → Int → Option Int) : SubQ := fun S R kn kx kr => (Dec.d zbj_d0 S).bind fun x => (zbj_p0 self x.1.2.1 x.1.2.2.2.1 x.1.2.2.2.2.2.1 x.2.1 x.2.2.1.1 x.2.2.1.2.2.2.2.2.1 x.2.2.2.1).bind fun r => (Sum.elim (fun (r_0 : Int) => kr ⟨[(8, [], .c (.o (.val (.int .i64 r_0))))], [], [.view .node x.2.1]⟩) (fun (r_1 : Int) => kx 0 ⟨[(12, [], .c (.o (.val (.int .i64 r_1))))], [], [.view .node x.2.1]⟩)) r
def zbj_L (self : (List Eng.Node) → Int → Bool → Int → Option Int) : Nat → SubQ := tblL [(0, zbj_l0 self)]
theorem zbj_p0_eq (self : (List Eng.Node) → Int → Bool → Int → Option Int) (open_ : Int) (next : Int) (i : Int) (v : List Eng.Node) (n_Kind : Int) (n_Key : ByteArray) (n_Text : ByteArray) (n_Whole : Bool) (n_Int : Int) (n_Kids : Int) (names : List ByteArray) (R : Type) (kn : QS → Option R) (kx : Nat → QS → Option R) (kr : QS → Option R) :
  interpQ (zbj_L self) (zbj_G self) 1 16 95 zbj_b0 ⟨[(0, [], .c (.o (.own 0))), (3, [], .c (.o (.val (.int .i64 open_)))), (9, [], .c (.o (.hd 1 0))), (12, [], .c (.o (.val (.int .i64 next)))), (13, [], .c (.o (.own 2))), (14, [], .c (.o (.val (.int .i64 i))))], [], [.view .node v, .cells 36 [.val (.int .i64 n_Kind), .val (.string n_Key), .val (.string n_Text), .val (.bool n_Whole), .val (.int .i64 n_Int), .val (.int .i64 n_Kids)], .row .str 9 names]⟩ kn kx kr = (zbj_p0 self open_ next i v n_Kind n_Kids names).bind fun r => (Sum.elim (fun (r_0 : Int) => kr ⟨[(8, [], .c (.o (.val (.int .i64 r_0))))], [], [.view .node v]⟩) (fun (r_1 : Int) => kx 0 ⟨[(12, [], .c (.o (.val (.int .i64 r_1))))], [], [.view .node v]⟩)) r := by
 refine loop_piece (step := fun x => zbj_p0_step self open_ x.1 x.2.1 v n_Kind n_Kids x.2.2) (enc := fun x => ⟨[(0, [], .c (.o (.own 0))), (3, [], .c (.o (.val (.int .i64 open_)))), (9, [], .c (.o (.hd 1 0))), (12, [], .c (.o (.val (.int .i64 x.1)))), (13, [], .c (.o (.own 2))), (14, [], .c (.o (.val (.int .i64 x.2.1))))], [], [.view .node v, .cells 36 [.val (.int .i64 n_Kind), .val (.string n_Key), .val (.string n_Text), .val (.bool n_Whole), .val (.int .i64 n_Int), .val (.int .i64 n_Kids)], .row .str 9 x.2.2]⟩) (ko := fun r => (Sum.elim (fun (r_0 : Int) => kr ⟨[(8, [], .c (.o (.val (.int .i64 r_0))))], [], [.view .node v]⟩) (fun (r_1 : Int) => kx 0 ⟨[(12, [], .c (.o (.val (.int .i64 r_1))))], [], [.view .node v]⟩)) r) ?_ ?_ (next, i, names)
 ·intro x; kernel_rfl
 ·intro x ki; simp only [zbj_p0_step, -eq_self, bind_cond, bind_gd, Option.bind_assoc, obS, Sum.elim_inl, Sum.elim_inr, bind_elim]; kernel_rfl
theorem zbj_sub0 (self : (List Eng.Node) → Int → Bool → Int → Option Int) : SubOK (zbj_L self) (zbj_G self) 1 16 95 0 zbj_b0 := sub_ok' zbj_d0 (fun x R kn kx kr => (zbj_p0 self x.1.2.1 x.1.2.2.2.1 x.1.2.2.2.2.2.1 x.2.1 x.2.2.1.1 x.2.2.1.2.2.2.2.2.1 x.2.2.2.1).bind fun r => (Sum.elim (fun (r_0 : Int) => kr ⟨[(8, [], .c (.o (.val (.int .i64 r_0))))], [], [.view .node x.2.1]⟩) (fun (r_1 : Int) => kx 0 ⟨[(12, [], .c (.o (.val (.int .i64 r_1))))], [], [.view .node x.2.1]⟩)) r) (by kernel_rfl) fun x R kn kx kr => zbj_p0_eq self x.1.2.1 x.1.2.2.2.1 x.1.2.2.2.2.2.1 x.2.1 x.2.2.1.1 x.2.2.1.2.1 x.2.2.1.2.2.1 x.2.2.1.2.2.2.1 x.2.2.1.2.2.2.2.1 x.2.2.1.2.2.2.2.2.1 x.2.2.2.1 R kn kx kr
theorem zbj_subs (self : (List Eng.Node) → Int → Bool → Int → Option Int) : subsOK (zbj_L self) (zbj_G self) 1 16 95 zbj_q := subs_of (show AllSub (zbj_L self) (zbj_G self) 1 16 95 [(0, zbj_b0)] from ⟨(zbj_sub0 self), trivial⟩)
theorem zbj_eq (self : (List Eng.Node) → Int → Bool → Int → Option Int) (v : (List Eng.Node)) (at_ : Int) (object : Bool) (open_ : Int) (R : Type) (k : SV → List SB → Option R) :
  fnQ (zbj_L self) (zbj_G self) 16 95 zbj_q [.tmp 8] [.c (.o (.own 0)), .c (.o (.val (.int .i64 at_))), .c (.o (.val (.bool object))), .c (.o (.val (.int .i64 open_)))] [.view .node v] k = (zbj_t self v at_ object open_).bind fun r => k (.c (.o (.val (.int .i64 r)))) [.view .node v] := by
 simp only [zbj_t, -eq_self, bind_cond, bind_gd, Option.bind_assoc, obS, Sum.elim_inl, Sum.elim_inr, bind_elim]
 kernel_rfl
theorem zbj_val_t (self : (List Eng.Node) → Int → Bool → Int → Option Int) (hself : ValidQ Tryd.prog 52 (zbj_ws self)) : ValidS Tryd.prog 52 (zbj_cs (zbj_t self)) :=
 val_ok zbj_chk 16 (zbj_Gok self hself) zbj_da zbj_db 1 (fun x y R k => (zbj_t self y.1 x.2.1 x.2.2.1 x.2.2.2.1).bind fun r => k (.c (.o (.val (.int .i64 r)))) [.view .node y.1]) (by kernel_rfl)
  (fun x y R k => by simp only [Option.bind_assoc, obS]) (fun x => Nat.le_of_ble_eq_true rfl) (fun y => rfl) (zbj_subs self) fun x y => zbj_eq self y.1 x.2.1 x.2.2.1 x.2.2.2.1 _ _
def zbj_n : Nat → (List Eng.Node) → Int → Bool → Int → Option Int
 | 0 => fun _ _ _ _ => none
 | n + 1 => zbj_t (zbj_n n)
def zbj_s (v : (List Eng.Node)) (at_ : Int) (object : Bool) (open_ : Int) : Option Int := evt fun n => zbj_n n v at_ object open_
theorem zbj_valn : ∀ n, ValidS Tryd.prog 52 (zbj_cs (zbj_n n))
 | 0 => ValidS.zero fun args hp R k => by
  show ((Dec.d zbj_da args).bind fun x => (Dec.d zbj_db hp).bind fun y => none) = none
  cases Dec.d zbj_da args with
  | none => rfl
  | some x => cases Dec.d zbj_db hp <;> rfl
 | n + 1 => zbj_val_t (zbj_n n) (prep_quiet (zbj_valn n))
theorem zbj_val : ValidS Tryd.prog 52 (zbj_cs zbj_s) := ValidS.evt zbj_valn (fun args hp R k => by
  show ((Dec.d zbj_da args).bind fun x => (Dec.d zbj_db hp).bind fun y => _) = (((Dec.d zbj_da args).bind fun x => (Dec.d zbj_db hp).bind fun y => _) : Option (SV × List SB)).bind _
  cases Dec.d zbj_da args with
  | none => rfl
  | some x =>
   cases Dec.d zbj_db hp with
   | none => rfl
   | some y => simp only [obS, Option.bind_assoc]) fun args hp v hp' h => by
  obtain ⟨x, h1, h2⟩ := Option.bind_eq_some_iff.1 h
  obtain ⟨y, h3, h4⟩ := Option.bind_eq_some_iff.1 h2
  obtain ⟨r, h5, h6⟩ := Option.bind_eq_some_iff.1 h4
  obtain ⟨n, h7⟩ := evt_some h5
  refine ⟨n, ?_⟩
  show ((Dec.d zbj_da args).bind fun x => (Dec.d zbj_db hp).bind fun y => _) = _
  rw [h1]
  simp only [obS]
  rw [h3]
  simp only [obS]
  exact (congrArg (fun z => Option.bind z _) h7).trans h6
def zbj_w : CQ := zbj_ws zbj_s
theorem zbj_ok : ValidQ Tryd.prog 52 zbj_w := prep_quiet zbj_val

/-! ### signet/signetref3.Shaped -/
def zbb_q : IQ :=
 (.seq
 (.reg 2 none [
  oP 2 (.mv (.v (.bool false)))])
 (.seq
 (.reg 2 none [
  oP 3 (.mv (.t 0)),
  oP 4 (.len (.t 3)),
  oP 5 (.bin false .gtr (.t 4) (.v (.int .i64 0))),
  oP 6 (.mv (.t 5)),
  oG 7 (.mv (.t 0)) 6 true,
  oG 8 (.call 52 [(.t 7), (.v (.int .i64 0)), (.v (.bool false)), (.v (.int .i64 0))]) 6 true,
  oG 9 (.mv (.t 0)) 6 true,
  oG 10 (.len (.t 9)) 6 true,
  oG 11 (.bin false .eql (.t 8) (.t 10)) 6 true,
  oP 12 (.pick (.t 6) (.t 11) (.v (.bool false))),
  oP 2 (.mv (.t 12))])
 (.canon [] [2] .ret)))
theorem zbb_chk : chk Tryd.prog 38 [] = some (zbb_q.erase, [.tmp 2], 13) := by kernel_rfl
def zbb_s (v : (List Eng.Node)) : Option Bool :=
 bif decide ((0 : Int) < (v.length : Int)) then (
  (zbj_s v (0 : Int) false (0 : Int)).bind fun r1 =>
  some (decide (r1 = (v.length : Int))))
 else (
  some false)
def zbb_G : Nat → Option CQ := tblQ [(52, zbj_w)]
theorem zbb_Gok : ∀ f C, zbb_G f = some C → ValidQ Tryd.prog f C := tblQ_valid ⟨zbj_ok, trivial⟩
def zbb_L : Nat → SubQ := tblL []
theorem zbb_subs : subsOK zbb_L zbb_G 1 3 13 zbb_q := subs_of (show AllSub zbb_L zbb_G 1 3 13 [] from trivial)
theorem zbb_eq (v : (List Eng.Node)) (R : Type) (k : SV → List SB → Option R) :
  fnQ zbb_L zbb_G 3 13 zbb_q [.tmp 2] [.c (.o (.own 0))] [.view .node v] k = (zbb_s v).bind fun r => k (.c (.o (.val (.bool r)))) [.view .node v] := by
 simp only [zbb_s, -eq_self, bind_cond, bind_gd, Option.bind_assoc, obS, Sum.elim_inl, Sum.elim_inr, bind_elim]
 kernel_rfl
def zbb_da := (dCons (dVC (dCO (dO 0))) dNil)
def zbb_db := (dCons (dView .node) dNil)
def zbb_c : CS := fun args hp R k => (Dec.d zbb_da args).bind fun x => (Dec.d zbb_db hp).bind fun y => (zbb_s y.1).bind fun r => k (.c (.o (.val (.bool r)))) [.view .node y.1]
theorem zbb_val : ValidS Tryd.prog 38 zbb_c :=
 val_ok zbb_chk 3 zbb_Gok zbb_da zbb_db 1 (fun x y R k => (zbb_s y.1).bind fun r => k (.c (.o (.val (.bool r)))) [.view .node y.1]) (by kernel_rfl)
  (fun x y R k => by simp only [Option.bind_assoc, obS]) (fun x => Nat.le_of_ble_eq_true rfl) (fun y => rfl) zbb_subs fun x y => zbb_eq y.1 _ _
def zbb_w : CQ := prepQ [(0, none, some (.node, 36))] (liftV [false] zbb_c)
theorem zbb_ok : ValidQ Tryd.prog 38 zbb_w := prep_quiet zbb_val

/-! ### a group that calls itself: signet/signetref3.Behind -/
def zax_da := (dCons (dVC (dCO (dO 0))) (dCons (dVC (dCO (dI .i64))) dNil))
def zax_db := (dCons (dView .node) dNil)
def zax_cs (self : (List Eng.Node) → Int → Option Int) : CS := fun args hp R k => (Dec.d zax_da args).bind fun x => (Dec.d zax_db hp).bind fun y => (self y.1 x.2.1).bind fun r => k (.c (.o (.val (.int .i64 r)))) [.view .node y.1]
def zax_ws (self : (List Eng.Node) → Int → Option Int) : CQ := prepQ [(0, none, some (.node, 36))] (liftV [false] (zax_cs self))

/-! ### signet/signetref3.Behind -/
def zax_b0 : IQ :=
 (.loop [0, 1, 5, 6]
  (.seq
  (.seq
  (.reg 27 none [
   oP 17 (.mv (.t 6)),
   oP 18 (.mv (.t 0)),
   oP 19 (.mv (.t 1)),
   oP 20 (.iaddr 6 (.t 18) (.t 19)),
   oP 21 (.faddr 5 (.t 20)),
   oP 22 (.load none (.t 21)),
   oP 23 (.bin false .lss (.t 17) (.t 22)),
   oP 24 (.mv (.t 23)),
   oG 25 (.mv (.t 5)) 24 true,
   oG 26 (.bin false .geq (.t 25) (.v (.int .i64 0))) 24 true,
   oP 27 (.pick (.t 24) (.t 26) (.v (.bool false)))])
  (.cond (.t 27)
   .skip
   (.canon [] [5] (.exit 0))))
  (.seq
  (.block 1
   (.reg 5 none [
    oP 30 (.mv (.t 0)),
    oP 31 (.mv (.t 5)),
    oP 32 (.call 41 [(.t 30), (.t 31)]),
    oP 5 (.mv (.t 32))]))
  (.reg 6 none [
   oP 28 (.mv (.t 6)),
   oP 29 (.bin false .add (.t 28) (.v (.int .i64 1))),
   oP 6 (.mv (.t 29))]))))
def zax_q : IQ :=
 (.seq
 (.reg 4 none [
  oP 4 (.mv (.v (.int .i64 0)))])
 (.seq
 (.seq
 (.reg 14 none [
  oP 7 (.mv (.t 1)),
  oP 8 (.bin false .lss (.t 7) (.v (.int .i64 0))),
  oP 9 (.mv (.t 8)),
  oG 10 (.mv (.t 1)) 9 false,
  oG 11 (.mv (.t 0)) 9 false,
  oG 12 (.len (.t 11)) 9 false,
  oG 13 (.bin false .geq (.t 10) (.t 12)) 9 false,
  oP 14 (.pick (.t 9) (.v (.bool true)) (.t 13))])
 (.cond (.t 14)
  (.seq
  (.reg 4 none [
   oP 4 (.mv (.v (.int .i64 (-1))))])
  (.canon [] [4] .ret))
  .skip))
 (.seq
 (.reg 5 none [
  oP 15 (.mv (.t 1)),
  oP 16 (.bin false .add (.t 15) (.v (.int .i64 1))),
  oP 5 (.mv (.t 16))])
 (.seq
 (.seq
 (.reg 6 none [
  oP 6 (.mv (.v (.int .i64 0)))])
 (.block 0
  (.canon [] [0, 1, 5, 6] (.sub 0 zax_b0))))
 (.seq
 (.reg 4 none [
  oP 33 (.mv (.t 5)),
  oP 4 (.mv (.t 33))])
 (.canon [] [4] .ret))))))
theorem zax_chk : chk Tryd.prog 41 [] = some (zax_q.erase, [.tmp 4], 34) := by kernel_rfl
def zax_p0_step (self : (List Eng.Node) → Int → Option Int) (at_ : Int) (next : Int) (i : Int) (v : List Eng.Node) : Option ((Int × Int) ⊕ Int) :=
 gd (0 ≤ at_ ∧ at_ < v.length) <|
 gd ((Int.toNat at_) < v.length) <|
 gd ((Int.toNat at_) < v.length) <|
 bif ((decide (i < ((v.getD (Int.toNat at_) (ET.dft .node)).kids))) && (decide ((0 : Int) ≤ next))) then (
  (self v next).bind fun r3 =>
  gd (InI64 (i + (1 : Int))) <|
  some (.inl (r3, (i + (1 : Int)))))
 else (
  some (.inr next))
def zax_p0 (self : (List Eng.Node) → Int → Option Int) (at_ : Int) (next : Int) (i : Int) (v : List Eng.Node) : Option Int :=
 whileO (fun x : (Int × Int) => zax_p0_step self at_ x.1 x.2 v) (next, i)
def zax_t (self : (List Eng.Node) → Int → Option Int) (v : (List Eng.Node)) (at_ : Int) : Option Int :=
 bif ((decide (at_ < (0 : Int))) || (decide ((v.length : Int) ≤ at_))) then (
  some (-1 : Int))
 else (
  gd (InI64 (at_ + (1 : Int))) <|
  (zax_p0 self at_ (at_ + (1 : Int)) (0 : Int) v).bind fun o4 =>
  some o4)
def zax_G (self : (List Eng.Node) → Int → Option Int) : Nat → Option CQ := tblQ [(41, zax_ws self)]
theorem zax_Gok (self : (List Eng.Node) → Int → Option Int) (hself : ValidQ Tryd.prog 41 (zax_ws self)) : ∀ f C, (zax_G self) f = some C → ValidQ Tryd.prog f C := tblQ_valid ⟨hself, trivial⟩
def zax_d0 := (dQS (dCons (dSl 0 (dVC (dCO (dO 0)))) (dCons (dSl 1 (dVC (dCO (dI .i64)))) (dCons (dSl 5 (dVC (dCO (dI .i64)))) (dCons (dSl 6 (dVC (dCO (dI .i64)))) dNil)))) (dCons (dView .node) dNil))
def zax_l0 (self : (List Eng.Node) → Int → Option Int) : SubQ := fun S R kn kx kr => (Dec.d zax_d0 S).bind fun x => (zax_p0 self x.1.2.1 x.1.2.2.1 x.1.2.2.2.1 x.2.1).bind fun r => kx 0 ⟨[(5, [], .c (.o (.val (.int .i64 r))))], [], [.view .node x.2.1]⟩
def zax_L (self : (List Eng.Node) → Int → Option Int) : Nat → SubQ := tblL [(0, zax_l0 self)]
theorem zax_p0_eq (self : (List Eng.Node) → Int → Option Int) (at_ : Int) (next : Int) (i : Int) (v : List Eng.Node) (R : Type) (kn : QS → Option R) (kx : Nat → QS → Option R) (kr : QS → Option R) :
  interpQ (zax_L self) (zax_G self) 1 7 34 zax_b0 ⟨[(0, [], .c (.o (.own 0))), (1, [], .c (.o (.val (.int .i64 at_)))), (5, [], .c (.o (.val (.int .i64 next)))), (6, [], .c (.o (.val (.int .i64 i))))], [], [.view .node v]⟩ kn kx kr = (zax_p0 self at_ next i v).bind fun r => kx 0 ⟨[(5, [], .c (.o (.val (.int .i64 r))))], [], [.view .node v]⟩ := by
 refine loop_piece (step := fun x => zax_p0_step self at_ x.1 x.2 v) (enc := fun x => ⟨[(0, [], .c (.o (.own 0))), (1, [], .c (.o (.val (.int .i64 at_)))), (5, [], .c (.o (.val (.int .i64 x.1)))), (6, [], .c (.o (.val (.int .i64 x.2))))], [], [.view .node v]⟩) (ko := fun r => kx 0 ⟨[(5, [], .c (.o (.val (.int .i64 r))))], [], [.view .node v]⟩) ?_ ?_ (next, i)
 ·intro x; kernel_rfl
 ·intro x ki; simp only [zax_p0_step, -eq_self, bind_cond, bind_gd, Option.bind_assoc, obS, Sum.elim_inl, Sum.elim_inr, bind_elim]; kernel_rfl
theorem zax_sub0 (self : (List Eng.Node) → Int → Option Int) : SubOK (zax_L self) (zax_G self) 1 7 34 0 zax_b0 := sub_ok' zax_d0 (fun x R kn kx kr => (zax_p0 self x.1.2.1 x.1.2.2.1 x.1.2.2.2.1 x.2.1).bind fun r => kx 0 ⟨[(5, [], .c (.o (.val (.int .i64 r))))], [], [.view .node x.2.1]⟩) (by kernel_rfl) fun x R kn kx kr => zax_p0_eq self x.1.2.1 x.1.2.2.1 x.1.2.2.2.1 x.2.1 R kn kx kr
theorem zax_subs (self : (List Eng.Node) → Int → Option Int) : subsOK (zax_L self) (zax_G self) 1 7 34 zax_q := subs_of (show AllSub (zax_L self) (zax_G self) 1 7 34 [(0, zax_b0)] from ⟨(zax_sub0 self), trivial⟩)
theorem zax_eq (self : (List Eng.Node) → Int → Option Int) (v : (List Eng.Node)) (at_ : Int) (R : Type) (k : SV → List SB → Option R) :
  fnQ (zax_L self) (zax_G self) 7 34 zax_q [.tmp 4] [.c (.o (.own 0)), .c (.o (.val (.int .i64 at_)))] [.view .node v] k = (zax_t self v at_).bind fun r => k (.c (.o (.val (.int .i64 r)))) [.view .node v] := by
 simp only [zax_t, -eq_self, bind_cond, bind_gd, Option.bind_assoc, obS, Sum.elim_inl, Sum.elim_inr, bind_elim]
 kernel_rfl
theorem zax_val_t (self : (List Eng.Node) → Int → Option Int) (hself : ValidQ Tryd.prog 41 (zax_ws self)) : ValidS Tryd.prog 41 (zax_cs (zax_t self)) :=
 val_ok zax_chk 7 (zax_Gok self hself) zax_da zax_db 1 (fun x y R k => (zax_t self y.1 x.2.1).bind fun r => k (.c (.o (.val (.int .i64 r)))) [.view .node y.1]) (by kernel_rfl)
  (fun x y R k => by simp only [Option.bind_assoc, obS]) (fun x => Nat.le_of_ble_eq_true rfl) (fun y => rfl) (zax_subs self) fun x y => zax_eq self y.1 x.2.1 _ _
def zax_n : Nat → (List Eng.Node) → Int → Option Int
 | 0 => fun _ _ => none
 | n + 1 => zax_t (zax_n n)
def zax_s (v : (List Eng.Node)) (at_ : Int) : Option Int := evt fun n => zax_n n v at_
theorem zax_valn : ∀ n, ValidS Tryd.prog 41 (zax_cs (zax_n n))
 | 0 => ValidS.zero fun args hp R k => by
  show ((Dec.d zax_da args).bind fun x => (Dec.d zax_db hp).bind fun y => none) = none
  cases Dec.d zax_da args with
  | none => rfl
  | some x => cases Dec.d zax_db hp <;> rfl
 | n + 1 => zax_val_t (zax_n n) (prep_quiet (zax_valn n))
theorem zax_val : ValidS Tryd.prog 41 (zax_cs zax_s) := ValidS.evt zax_valn (fun args hp R k => by
  show ((Dec.d zax_da args).bind fun x => (Dec.d zax_db hp).bind fun y => _) = (((Dec.d zax_da args).bind fun x => (Dec.d zax_db hp).bind fun y => _) : Option (SV × List SB)).bind _
  cases Dec.d zax_da args with
  | none => rfl
  | some x =>
   cases Dec.d zax_db hp with
   | none => rfl
   | some y => simp only [obS, Option.bind_assoc]) fun args hp v hp' h => by
  obtain ⟨x, h1, h2⟩ := Option.bind_eq_some_iff.1 h
  obtain ⟨y, h3, h4⟩ := Option.bind_eq_some_iff.1 h2
  obtain ⟨r, h5, h6⟩ := Option.bind_eq_some_iff.1 h4
  obtain ⟨n, h7⟩ := evt_some h5
  refine ⟨n, ?_⟩
  show ((Dec.d zax_da args).bind fun x => (Dec.d zax_db hp).bind fun y => _) = _
  rw [h1]
  simp only [obS]
  rw [h3]
  simp only [obS]
  exact (congrArg (fun z => Option.bind z _) h7).trans h6
def zax_w : CQ := zax_ws zax_s
theorem zax_ok : ValidQ Tryd.prog 41 zax_w := prep_quiet zax_val

/-! ### signet/signetref3.Kids -/
def zay_b0 : IQ :=
 (.loop [0, 1, 5, 6, 7]
  (.seq
  (.seq
  (.reg 35 none [
   oP 19 (.mv (.t 7)),
   oP 20 (.mv (.t 0)),
   oP 21 (.mv (.t 1)),
   oP 22 (.iaddr 6 (.t 20) (.t 21)),
   oP 23 (.faddr 5 (.t 22)),
   oP 24 (.load none (.t 23)),
   oP 25 (.bin false .lss (.t 19) (.t 24)),
   oP 26 (.mv (.t 25)),
   oG 27 (.mv (.t 6)) 26 true,
   oG 28 (.bin false .geq (.t 27) (.v (.int .i64 0))) 26 true,
   oP 29 (.pick (.t 26) (.t 28) (.v (.bool false))),
   oP 30 (.mv (.t 29)),
   oG 31 (.mv (.t 6)) 30 true,
   oG 32 (.mv (.t 0)) 30 true,
   oG 33 (.len (.t 32)) 30 true,
   oG 34 (.bin false .lss (.t 31) (.t 33)) 30 true,
   oP 35 (.pick (.t 30) (.t 34) (.v (.bool false)))])
  (.cond (.t 35)
   .skip
   (.canon [] [5] (.exit 0))))
  (.seq
  (.block 1
   (.seq
   (.reg 5 none [
    oP 38 (.mv (.t 5)),
    oP 39 (.mv (.t 6)),
    oP 40 (.bslice 3 1 1 [.int .i64 0] [(0, (.t 39))]),
    oP 41 (.append 3 1 8 [.int .i64 0] (.t 38) (.t 40)),
    oP 5 (.mv (.t 41))])
   (.reg 6 none [
    oP 42 (.mv (.t 0)),
    oP 43 (.mv (.t 6)),
    oP 44 (.call 41 [(.t 42), (.t 43)]),
    oP 6 (.mv (.t 44))])))
  (.reg 7 none [
   oP 36 (.mv (.t 7)),
   oP 37 (.bin false .add (.t 36) (.v (.int .i64 1))),
   oP 7 (.mv (.t 37))]))))
def zay_q : IQ :=
 (.seq
 (.reg 4 none [
  oP 4 (.mv (.v (.slice none 0 0)))])
 (.seq
 (.reg 5 none [
  oP 5 (.mv (.v (.slice none 0 0)))])
 (.seq
 (.seq
 (.reg 15 none [
  oP 8 (.mv (.t 1)),
  oP 9 (.bin false .lss (.t 8) (.v (.int .i64 0))),
  oP 10 (.mv (.t 9)),
  oG 11 (.mv (.t 1)) 10 false,
  oG 12 (.mv (.t 0)) 10 false,
  oG 13 (.len (.t 12)) 10 false,
  oG 14 (.bin false .geq (.t 11) (.t 13)) 10 false,
  oP 15 (.pick (.t 10) (.v (.bool true)) (.t 14))])
 (.cond (.t 15)
  (.seq
  (.reg 4 none [
   oP 16 (.mv (.t 5)),
   oP 4 (.mv (.t 16))])
  (.canon [(4, none, .i64, 3)] [4] .ret))
  .skip))
 (.seq
 (.reg 6 none [
  oP 17 (.mv (.t 1)),
  oP 18 (.bin false .add (.t 17) (.v (.int .i64 1))),
  oP 6 (.mv (.t 18))])
 (.seq
 (.seq
 (.reg 7 none [
  oP 7 (.mv (.v (.int .i64 0)))])
 (.block 0
  (.canon [(5, none, .i64, 3)] [0, 1, 5, 6, 7] (.sub 0 zay_b0))))
 (.seq
 (.reg 4 none [
  oP 45 (.mv (.t 5)),
  oP 4 (.mv (.t 45))])
 (.canon [(4, none, .i64, 3)] [4] .ret)))))))
theorem zay_chk : chk Tryd.prog 24 [] = some (zay_q.erase, [.tmp 4], 46) := by kernel_rfl
def zay_p0_step (at_ : Int) (next : Int) (i : Int) (v : List Eng.Node) (out : List Int) : Option ((Int × Int × (List Int)) ⊕ ((List Int))) :=
 gd (0 ≤ at_ ∧ at_ < v.length) <|
 gd ((Int.toNat at_) < v.length) <|
 gd ((Int.toNat at_) < v.length) <|
 bif (((decide (i < ((v.getD (Int.toNat at_) (ET.dft .node)).kids))) && (decide ((0 : Int) ≤ next))) && (decide (next < (v.length : Int)))) then (
  gd (out.length + ([next] : List Int).length ≤ 9223372036854775807 ∧ (out.length + ([next] : List Int).length) * 8 ≤ 140737488355328) <|
  (zax_s v next).bind fun r5 =>
  gd (InI64 (i + (1 : Int))) <|
  some (.inl (r5, (i + (1 : Int)), (out ++ [next]))))
 else (
  some (.inr out))
def zay_p0 (at_ : Int) (next : Int) (i : Int) (v : List Eng.Node) (out : List Int) : Option ((List Int)) :=
 whileO (fun x : (Int × Int × (List Int)) => zay_p0_step at_ x.1 x.2.1 v x.2.2) (next, i, out)
def zay_s (v : (List Eng.Node)) (at_ : Int) : Option ((List Int)) :=
 bif ((decide (at_ < (0 : Int))) || (decide ((v.length : Int) ≤ at_))) then (
  some [])
 else (
  gd (InI64 (at_ + (1 : Int))) <|
  (zay_p0 at_ (at_ + (1 : Int)) (0 : Int) v []).bind fun o6 =>
  some o6)
def zay_G : Nat → Option CQ := tblQ [(41, zax_w)]
theorem zay_Gok : ∀ f C, zay_G f = some C → ValidQ Tryd.prog f C := tblQ_valid ⟨zax_ok, trivial⟩
def zay_d0 := (dQS (dCons (dSl 0 (dVC (dCO (dO 0)))) (dCons (dSl 1 (dVC (dCO (dI .i64)))) (dCons (dSl 5 (dVC (dCO (dO 1)))) (dCons (dSl 6 (dVC (dCO (dI .i64)))) (dCons (dSl 7 (dVC (dCO (dI .i64)))) dNil))))) (dCons (dView .node) (dCons (dRow .i64 3) dNil)))
def zay_l0 : SubQ := fun S R kn kx kr => (Dec.d zay_d0 S).bind fun x => (zay_p0 x.1.2.1 x.1.2.2.2.1 x.1.2.2.2.2.1 x.2.1 x.2.2.1).bind fun r => kx 0 ⟨[(5, [], .c (.o (.own 1)))], [], [.view .node x.2.1, .row .i64 3 r]⟩
def zay_L : Nat → SubQ := tblL [(0, zay_l0)]
theorem zay_p0_eq (at_ : Int) (next : Int) (i : Int) (v : List Eng.Node) (out : List Int) (R : Type) (kn : QS → Option R) (kx : Nat → QS → Option R) (kr : QS → Option R) :
  interpQ zay_L zay_G 1 8 46 zay_b0 ⟨[(0, [], .c (.o (.own 0))), (1, [], .c (.o (.val (.int .i64 at_)))), (5, [], .c (.o (.own 1))), (6, [], .c (.o (.val (.int .i64 next)))), (7, [], .c (.o (.val (.int .i64 i))))], [], [.view .node v, .row .i64 3 out]⟩ kn kx kr = (zay_p0 at_ next i v out).bind fun r => kx 0 ⟨[(5, [], .c (.o (.own 1)))], [], [.view .node v, .row .i64 3 r]⟩ := by
 refine loop_piece (step := fun x => zay_p0_step at_ x.1 x.2.1 v x.2.2) (enc := fun x => ⟨[(0, [], .c (.o (.own 0))), (1, [], .c (.o (.val (.int .i64 at_)))), (5, [], .c (.o (.own 1))), (6, [], .c (.o (.val (.int .i64 x.1)))), (7, [], .c (.o (.val (.int .i64 x.2.1))))], [], [.view .node v, .row .i64 3 x.2.2]⟩) (ko := fun r => kx 0 ⟨[(5, [], .c (.o (.own 1)))], [], [.view .node v, .row .i64 3 r]⟩) ?_ ?_ (next, i, out)
 ·intro x; kernel_rfl
 ·intro x ki; simp only [zay_p0_step, -eq_self, bind_cond, bind_gd, Option.bind_assoc, obS, Sum.elim_inl, Sum.elim_inr, bind_elim]; kernel_rfl
theorem zay_sub0 : SubOK zay_L zay_G 1 8 46 0 zay_b0 := sub_ok' zay_d0 (fun x R kn kx kr => (zay_p0 x.1.2.1 x.1.2.2.2.1 x.1.2.2.2.2.1 x.2.1 x.2.2.1).bind fun r => kx 0 ⟨[(5, [], .c (.o (.own 1)))], [], [.view .node x.2.1, .row .i64 3 r]⟩) (by kernel_rfl) fun x R kn kx kr => zay_p0_eq x.1.2.1 x.1.2.2.2.1 x.1.2.2.2.2.1 x.2.1 x.2.2.1 R kn kx kr
theorem zay_subs : subsOK zay_L zay_G 1 8 46 zay_q := subs_of (show AllSub zay_L zay_G 1 8 46 [(0, zay_b0)] from ⟨zay_sub0, trivial⟩)
theorem zay_eq (v : (List Eng.Node)) (at_ : Int) (R : Type) (k : SV → List SB → Option R) :
  fnQ zay_L zay_G 8 46 zay_q [.tmp 4] [.c (.o (.own 0)), .c (.o (.val (.int .i64 at_)))] [.view .node v] k = (zay_s v at_).bind fun r => k (.c (.o (.own 1))) [.view .node v, .row .i64 3 r] := by
 simp only [zay_s, -eq_self, bind_cond, bind_gd, Option.bind_assoc, obS, Sum.elim_inl, Sum.elim_inr, bind_elim]
 kernel_rfl
def zay_da := (dCons (dVC (dCO (dO 0))) (dCons (dVC (dCO (dI .i64))) dNil))
def zay_db := (dCons (dView .node) dNil)
def zay_c : CS := fun args hp R k => (Dec.d zay_da args).bind fun x => (Dec.d zay_db hp).bind fun y => (zay_s y.1 x.2.1).bind fun r => k (.c (.o (.own 1))) [.view .node y.1, .row .i64 3 r]
theorem zay_val : ValidS Tryd.prog 24 zay_c :=
 val_ok zay_chk 8 zay_Gok zay_da zay_db 1 (fun x y R k => (zay_s y.1 x.2.1).bind fun r => k (.c (.o (.own 1))) [.view .node y.1, .row .i64 3 r]) (by kernel_rfl)
  (fun x y R k => by simp only [Option.bind_assoc, obS]) (fun x => Nat.le_of_ble_eq_true rfl) (fun y => rfl) zay_subs fun x y => zay_eq y.1 x.2.1 _ _
def zay_w : CQ := prepQ [(0, none, some (.node, 36))] (liftQ [false] zay_c)
theorem zay_ok : ValidQ Tryd.prog 24 zay_w := prep_loud zay_val

/-! ### signet/signetref3.Member -/
def signetref3_Member_p0_step (key : ByteArray) (i : Int) (v : List Eng.Node) (l : List Int) : Option (Int ⊕ (Int ⊕ Unit)) :=
 bif decide (i < (l.length : Int)) then (
  gd (0 ≤ i ∧ i < l.length) <|
  gd ((Int.toNat i) < l.length) <|
  gd (0 ≤ (l.getD (Int.toNat i) (ET.dft .i64)) ∧ (l.getD (Int.toNat i) (ET.dft .i64)) < v.length) <|
  gd ((Int.toNat (l.getD (Int.toNat i) (ET.dft .i64))) < v.length) <|
  gd ((Int.toNat (l.getD (Int.toNat i) (ET.dft .i64))) < v.length) <|
  bif decide (((v.getD (Int.toNat (l.getD (Int.toNat i) (ET.dft .i64))) (ET.dft .node)).key) = key) then (
   gd (0 ≤ i ∧ i < l.length) <|
   gd ((Int.toNat i) < l.length) <|
   some (.inr (.inl (l.getD (Int.toNat i) (ET.dft .i64)))))
  else (
   gd (InI64 (i + (1 : Int))) <|
   some (.inl (i + (1 : Int)))))
 else (
  some (.inr (.inr ())))
def signetref3_Member_p0 (key : ByteArray) (i : Int) (v : List Eng.Node) (l : List Int) : Option (Int ⊕ Unit) :=
 whileO (fun x : Int => signetref3_Member_p0_step key x v l) i
def signetref3_Member_s (v : (List Eng.Node)) (at_ : Int) (key : ByteArray) : Option Int :=
 gd (((decide (at_ < (0 : Int))) || (decide ((v.length : Int) ≤ at_))) = false → 0 ≤ at_ ∧ at_ < v.length) <|
 gd (((decide (at_ < (0 : Int))) || (decide ((v.length : Int) ≤ at_))) = false → (Int.toNat at_) < v.length) <|
 gd (((decide (at_ < (0 : Int))) || (decide ((v.length : Int) ≤ at_))) = false → (Int.toNat at_) < v.length) <|
 bif (((decide (at_ < (0 : Int))) || (decide ((v.length : Int) ≤ at_))) || (!decide (((v.getD (Int.toNat at_) (ET.dft .node)).kind) = (7 : Int)))) then (
  some (-1 : Int))
 else (
  (zay_s v at_).bind fun r2 =>
  (signetref3_Member_p0 key (0 : Int) v r2).bind fun o3 => (Sum.elim (fun (o3_0 : Int) =>
   some o3_0) (fun (o3_1 : Unit) =>
   some (-1 : Int))) o3)
/-! ### signet/json.Behind -/
def json_Behind_p0_step (at_ : Int) (left : Int) (v : List Eng.Node) : Option ((Int × Int) ⊕ Int) :=
 bif ((decide ((0 : Int) < left)) && (decide (at_ < (v.length : Int)))) then (
  gd (0 ≤ at_ ∧ at_ < v.length) <|
  gd ((Int.toNat at_) < v.length) <|
  gd ((Int.toNat at_) < v.length) <|
  gd (InI64 (at_ + (1 : Int))) <|
  some (.inl ((at_ + (1 : Int)), w64 (left + (w64 (((v.getD (Int.toNat at_) (ET.dft .node)).kids) - (1 : Int)))))))
 else (
  some (.inr at_))
def json_Behind_p0 (at_ : Int) (left : Int) (v : List Eng.Node) : Option Int :=
 whileO (fun x : (Int × Int) => json_Behind_p0_step x.1 x.2 v) (at_, left)
def json_Behind_s (v : (List Eng.Node)) (at_ : Int) : Option Int :=
 bif ((decide (at_ < (0 : Int))) || (decide ((v.length : Int) ≤ at_))) then (
  some (-1 : Int))
 else (
  (json_Behind_p0 at_ (1 : Int) v).bind fun o1 =>
  some o1)
/-! ### signet/json.Kids -/
/-! ### signet/json.Member -/
def json_Member_p0_step (at_ : Int) (key : ByteArray) (next : Int) (i : Int) (v : List Eng.Node) : Option ((Int × Int) ⊕ (Int ⊕ Unit)) :=
 gd (0 ≤ at_ ∧ at_ < v.length) <|
 gd ((Int.toNat at_) < v.length) <|
 gd ((Int.toNat at_) < v.length) <|
 bif (((decide (i < ((v.getD (Int.toNat at_) (ET.dft .node)).kids))) && (decide ((0 : Int) ≤ next))) && (decide (next < (v.length : Int)))) then (
  gd (0 ≤ next ∧ next < v.length) <|
  gd ((Int.toNat next) < v.length) <|
  gd ((Int.toNat next) < v.length) <|
  bif decide (((v.getD (Int.toNat next) (ET.dft .node)).key) = key) then (
   some (.inr (.inl next)))
  else (
   (json_Behind_s v next).bind fun r3 =>
   gd (InI64 (i + (1 : Int))) <|
   some (.inl (r3, (i + (1 : Int))))))
 else (
  some (.inr (.inr ())))
def json_Member_p0 (at_ : Int) (key : ByteArray) (next : Int) (i : Int) (v : List Eng.Node) : Option (Int ⊕ Unit) :=
 whileO (fun x : (Int × Int) => json_Member_p0_step at_ key x.1 x.2 v) (next, i)
def json_Member_s (v : (List Eng.Node)) (at_ : Int) (key : ByteArray) : Option Int :=
 gd (((decide (at_ < (0 : Int))) || (decide ((v.length : Int) ≤ at_))) = false → 0 ≤ at_ ∧ at_ < v.length) <|
 gd (((decide (at_ < (0 : Int))) || (decide ((v.length : Int) ≤ at_))) = false → (Int.toNat at_) < v.length) <|
 gd (((decide (at_ < (0 : Int))) || (decide ((v.length : Int) ≤ at_))) = false → (Int.toNat at_) < v.length) <|
 bif (((decide (at_ < (0 : Int))) || (decide ((v.length : Int) ≤ at_))) || (!decide (((v.getD (Int.toNat at_) (ET.dft .node)).kind) = (7 : Int)))) then (
  some (-1 : Int))
 else (
  gd (InI64 (at_ + (1 : Int))) <|
  (json_Member_p0 at_ key (at_ + (1 : Int)) (0 : Int) v).bind fun o4 => (Sum.elim (fun (o4_0 : Int) =>
   some o4_0) (fun (o4_1 : Unit) =>
   some (-1 : Int))) o4)
end
end Go.Proofs.YtekkjbomadoplaaDoor
