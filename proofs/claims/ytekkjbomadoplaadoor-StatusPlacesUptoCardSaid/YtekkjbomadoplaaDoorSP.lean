/-
 Functions as the engine reads them (printed by gen.py).
-/
import Derived.Test.YtekkjbomadoplaaDoorEngO
import Derived.Test.YtekkjbomadoplaaDoorProg
import Derived.Test.YtekkjbomadoplaaDoorUtf8
import Derived.Test.YtekkjbomadoplaaDoorGC
import Derived.Test.YtekkjbomadoplaaDoorJR
import Derived.Test.YtekkjbomadoplaaDoorJS
namespace Go.Proofs.YtekkjbomadoplaaDoor
open Go.Eng
set_option linter.unusedVariables false
set_option linter.unusedSimpArgs false
set_option maxRecDepth 100000
noncomputable section
structure api_Time where
 has : Bool
 at_ : Int

structure api_Claims where
 value : (List Eng.Node)
 iss : ByteArray
 hasIss : Bool
 sub : ByteArray
 hasSub : Bool
 aud : (List ByteArray)
 hasAud : Bool
 jti : ByteArray
 hasJti : Bool
 exp_ : api_Time
 nbf : api_Time
 iat : api_Time

/-! ### signet/signetlaw35.lent -/
def zal_q : IQ :=
 (.seq
 (.reg 2 none [
  oP 2 (.mv (.v (.slice none 0 0)))])
 (.seq
 (.reg 3 none [
  oP 3 (.mv (.v (.slice none 0 0)))])
 (.seq
 (.reg 3 none [
  oP 4 (.mv (.t 3)),
  oP 5 (.mv (.t 0)),
  oP 6 (.append 36 6 64 [.int .i64 0, .string ⟨#[]⟩, .string ⟨#[]⟩, .bool false, .int .i64 0, .int .i64 0] (.t 4) (.t 5)),
  oP 3 (.mv (.t 6))])
 (.seq
 (.reg 3 none [
  oP 7 (.mv (.t 3)),
  oP 8 (.build [.int .i64 0, .string ⟨#[]⟩, .string ⟨#[]⟩, .bool false, .int .i64 0, .int .i64 0] [(0, 1, (.v (.int .i64 91)))]),
  oP 9 (.build [.int .i64 0, .string ⟨#[]⟩, .string ⟨#[]⟩, .bool false, .int .i64 0, .int .i64 0] [(0, 1, (.v (.int .i64 92)))]),
  oP 10 (.bslice 36 6 2 [.int .i64 0, .string ⟨#[]⟩, .string ⟨#[]⟩, .bool false, .int .i64 0, .int .i64 0] [(0, (.t 8)), (1, (.t 9))]),
  oP 11 (.append 36 6 64 [.int .i64 0, .string ⟨#[]⟩, .string ⟨#[]⟩, .bool false, .int .i64 0, .int .i64 0] (.t 7) (.t 10)),
  oP 3 (.mv (.t 11))])
 (.seq
 (.reg 2 none [
  oP 12 (.mv (.t 3)),
  oP 13 (.mv (.t 0)),
  oP 14 (.len (.t 13)),
  oP 15 (.sub (some 6) (.t 12) (some (.v (.int .i64 0))) (some (.t 14))),
  oP 2 (.mv (.t 15))])
 (.canon [(2, none, .node, 36)] [2] .ret))))))
theorem zal_chk : chk Tryd.prog 7 [15] = some (zal_q.erase, [.tmp 2], 16) := by kernel_rfl
def zal_s (v : (List Eng.Node)) : Option ((List Eng.Node) × Nat) :=
 gd (v.length ≤ 9223372036854775807 ∧ v.length * 64 ≤ 140737488355328) <|
 gd (v.length + ([(⟨(91 : Int), (⟨#[]⟩ : ByteArray), (⟨#[]⟩ : ByteArray), false, (0 : Int), (0 : Int)⟩ : Eng.Node), (⟨(92 : Int), (⟨#[]⟩ : ByteArray), (⟨#[]⟩ : ByteArray), false, (0 : Int), (0 : Int)⟩ : Eng.Node)] : List Eng.Node).length ≤ 9223372036854775807 ∧ (v.length + ([(⟨(91 : Int), (⟨#[]⟩ : ByteArray), (⟨#[]⟩ : ByteArray), false, (0 : Int), (0 : Int)⟩ : Eng.Node), (⟨(92 : Int), (⟨#[]⟩ : ByteArray), (⟨#[]⟩ : ByteArray), false, (0 : Int), (0 : Int)⟩ : Eng.Node)] : List Eng.Node).length) * 64 ≤ 140737488355328) <|
 gd (0 ≤ (0 : Int) ∧ (0 : Int) ≤ (v.length : Int) ∧ (v.length : Int) ≤ (v ++ [(⟨(91 : Int), (⟨#[]⟩ : ByteArray), (⟨#[]⟩ : ByteArray), false, (0 : Int), (0 : Int)⟩ : Eng.Node), (⟨(92 : Int), (⟨#[]⟩ : ByteArray), (⟨#[]⟩ : ByteArray), false, (0 : Int), (0 : Int)⟩ : Eng.Node)]).length) <|
 some ((v ++ [(⟨(91 : Int), (⟨#[]⟩ : ByteArray), (⟨#[]⟩ : ByteArray), false, (0 : Int), (0 : Int)⟩ : Eng.Node), (⟨(92 : Int), (⟨#[]⟩ : ByteArray), (⟨#[]⟩ : ByteArray), false, (0 : Int), (0 : Int)⟩ : Eng.Node)]), (Int.toNat (v.length : Int)))
def zal_G : Nat → Option CQ := tblQ []
theorem zal_Gok : ∀ f C, zal_G f = some C → ValidQ Tryd.prog f C := fun f C h => by cases h
def zal_L : Nat → SubQ := tblL []
theorem zal_subs : subsOK zal_L zal_G 1 4 16 zal_q := subs_of (show AllSub zal_L zal_G 1 4 16 [] from trivial)
theorem zal_eq (v : (List Eng.Node)) (R : Type) (k : SV → List SB → Option R) :
  fnQ zal_L zal_G 4 16 zal_q [.tmp 2] [.c (.o (.own 0))] [.view .node v] k = (zal_s v).bind fun r => k (.c (.o (.own 1))) [.view .node v, .part 2 (0) r.2 6, .row .node 36 r.1] := by
 simp only [zal_s, -eq_self, bind_cond, bind_gd, Option.bind_assoc, obS, Sum.elim_inl, Sum.elim_inr, bind_elim]
 kernel_rfl
def zal_da := (dCons (dVC (dCO (dO 0))) dNil)
def zal_db := (dCons (dView .node) dNil)
def zal_c : CS := fun args hp R k => (Dec.d zal_da args).bind fun x => (Dec.d zal_db hp).bind fun y => (zal_s y.1).bind fun r => k (.c (.o (.own 1))) [.view .node y.1, .part 2 (0) r.2 6, .row .node 36 r.1]
theorem zal_val : ValidS Tryd.prog 7 zal_c :=
 val_ok zal_chk 4 zal_Gok zal_da zal_db 1 (fun x y R k => (zal_s y.1).bind fun r => k (.c (.o (.own 1))) [.view .node y.1, .part 2 (0) r.2 6, .row .node 36 r.1]) (by kernel_rfl)
  (fun x y R k => by simp only [Option.bind_assoc, obS]) (fun x => Nat.le_of_ble_eq_true rfl) (fun y => rfl) zal_subs fun x y => zal_eq y.1 _ _
def zal_w : CQ := prepQ [(0, none, some (.node, 36))] (liftQ [false] zal_c)
theorem zal_ok : ValidQ Tryd.prog 7 zal_w := prep_loud zal_val

/-! ### signet/status.rooted -/
def zbk_q : IQ :=
 (.seq
 (.reg 2 none [
  oP 2 (.mv (.v (.bool false)))])
 (.seq
 (.reg 2 none [
  oP 3 (.mv (.t 0)),
  oP 4 (.call 36 [(.t 3)]),
  oP 5 (.mv (.t 4)),
  oG 6 (.mv (.t 0)) 5 true,
  oG 7 (.iaddr 6 (.t 6) (.v (.int .i64 0))) 5 true,
  oG 8 (.faddr 0 (.t 7)) 5 true,
  oG 9 (.load none (.t 8)) 5 true,
  oG 10 (.bin false .eql (.t 9) (.v (.int .i64 7))) 5 true,
  oP 11 (.pick (.t 5) (.t 10) (.v (.bool false))),
  oP 2 (.mv (.t 11))])
 (.canon [] [2] .ret)))
theorem zbk_chk : chk Tryd.prog 17 [] = some (zbk_q.erase, [.tmp 2], 12) := by kernel_rfl
def zbk_s (v : (List Eng.Node)) : Option Bool :=
 (zai_s v).bind fun r1 =>
 gd (r1 = true → 0 ≤ (0 : Int) ∧ (0 : Int) < v.length) <|
 gd (r1 = true → (Int.toNat (0 : Int)) < v.length) <|
 gd (r1 = true → (Int.toNat (0 : Int)) < v.length) <|
 some (r1 && (decide (((v.getD (Int.toNat (0 : Int)) (ET.dft .node)).kind) = (7 : Int))))
def zbk_G : Nat → Option CQ := tblQ [(36, zai_w)]
theorem zbk_Gok : ∀ f C, zbk_G f = some C → ValidQ Tryd.prog f C := tblQ_valid ⟨zai_ok, trivial⟩
def zbk_L : Nat → SubQ := tblL []
theorem zbk_subs : subsOK zbk_L zbk_G 1 3 12 zbk_q := subs_of (show AllSub zbk_L zbk_G 1 3 12 [] from trivial)
theorem zbk_eq (v : (List Eng.Node)) (R : Type) (k : SV → List SB → Option R) :
  fnQ zbk_L zbk_G 3 12 zbk_q [.tmp 2] [.c (.o (.own 0))] [.view .node v] k = (zbk_s v).bind fun r => k (.c (.o (.val (.bool r)))) [.view .node v] := by
 simp only [zbk_s, -eq_self, bind_cond, bind_gd, Option.bind_assoc, obS, Sum.elim_inl, Sum.elim_inr, bind_elim]
 kernel_rfl
def zbk_da := (dCons (dVC (dCO (dO 0))) dNil)
def zbk_db := (dCons (dView .node) dNil)
def zbk_c : CS := fun args hp R k => (Dec.d zbk_da args).bind fun x => (Dec.d zbk_db hp).bind fun y => (zbk_s y.1).bind fun r => k (.c (.o (.val (.bool r)))) [.view .node y.1]
theorem zbk_val : ValidS Tryd.prog 17 zbk_c :=
 val_ok zbk_chk 3 zbk_Gok zbk_da zbk_db 1 (fun x y R k => (zbk_s y.1).bind fun r => k (.c (.o (.val (.bool r)))) [.view .node y.1]) (by kernel_rfl)
  (fun x y R k => by simp only [Option.bind_assoc, obS]) (fun x => Nat.le_of_ble_eq_true rfl) (fun y => rfl) zbk_subs fun x y => zbk_eq y.1 _ _
def zbk_w : CQ := prepQ [(0, none, some (.node, 36))] (liftV [false] zbk_c)
theorem zbk_ok : ValidQ Tryd.prog 17 zbk_w := prep_quiet zbk_val

/-! ### signet/status.object -/
def zbj_q : IQ :=
 (.seq
 (.reg 6 none [
  oP 6 (.mv (.v (.int .i64 0)))])
 (.seq
 (.reg 1 none [
  oP 7 (.mv (.t 0)),
  oP 8 (.mv (.t 1)),
  oP 9 (.mv (.t 2)),
  oP 10 (.call 18 [(.t 7), (.t 8), (.t 9)]),
  oP 1 (.mv (.t 10))])
 (.seq
 (.seq
 (.reg 20 none [
  oP 11 (.mv (.t 1)),
  oP 12 (.bin false .geq (.t 11) (.v (.int .i64 0))),
  oP 13 (.mv (.t 12)),
  oG 14 (.mv (.t 0)) 13 true,
  oG 15 (.mv (.t 1)) 13 true,
  oG 16 (.iaddr 6 (.t 14) (.t 15)) 13 true,
  oG 17 (.faddr 0 (.t 16)) 13 true,
  oG 18 (.load none (.t 17)) 13 true,
  oG 19 (.bin false .neq (.t 18) (.v (.int .i64 7))) 13 true,
  oP 20 (.pick (.t 13) (.t 19) (.v (.bool false)))])
 (.cond (.t 20)
  (.seq
  (.reg 6 none [
   oP 6 (.mv (.v (.int .i64 (-1))))])
  (.canon [] [6] .ret))
  .skip))
 (.seq
 (.reg 6 none [
  oP 21 (.mv (.t 1)),
  oP 6 (.mv (.t 21))])
 (.canon [] [6] .ret)))))
theorem zbj_chk : chk Tryd.prog 19 [] = some (zbj_q.erase, [.tmp 6], 22) := by kernel_rfl
def zbj_s (v : (List Eng.Node)) (at_ : Int) (name : ByteArray) : Option Int :=
 (zah_s v at_ name).bind fun r1 =>
 gd ((decide ((0 : Int) ≤ r1)) = true → 0 ≤ r1 ∧ r1 < v.length) <|
 gd ((decide ((0 : Int) ≤ r1)) = true → (Int.toNat r1) < v.length) <|
 gd ((decide ((0 : Int) ≤ r1)) = true → (Int.toNat r1) < v.length) <|
 bif ((decide ((0 : Int) ≤ r1)) && (!decide (((v.getD (Int.toNat r1) (ET.dft .node)).kind) = (7 : Int)))) then (
  some (-1 : Int))
 else (
  some r1)
def zbj_G : Nat → Option CQ := tblQ [(18, zah_w)]
theorem zbj_Gok : ∀ f C, zbj_G f = some C → ValidQ Tryd.prog f C := tblQ_valid ⟨zah_ok, trivial⟩
def zbj_L : Nat → SubQ := tblL []
theorem zbj_subs : subsOK zbj_L zbj_G 1 7 22 zbj_q := subs_of (show AllSub zbj_L zbj_G 1 7 22 [] from trivial)
theorem zbj_eq (v : (List Eng.Node)) (at_ : Int) (name : ByteArray) (R : Type) (k : SV → List SB → Option R) :
  fnQ zbj_L zbj_G 7 22 zbj_q [.tmp 6] [.c (.o (.own 0)), .c (.o (.val (.int .i64 at_))), .c (.o (.val (.string name)))] [.view .node v] k = (zbj_s v at_ name).bind fun r => k (.c (.o (.val (.int .i64 r)))) [.view .node v] := by
 simp only [zbj_s, -eq_self, bind_cond, bind_gd, Option.bind_assoc, obS, Sum.elim_inl, Sum.elim_inr, bind_elim]
 kernel_rfl
def zbj_da := (dCons (dVC (dCO (dO 0))) (dCons (dVC (dCO (dI .i64))) (dCons (dVC (dCO dS)) dNil)))
def zbj_db := (dCons (dView .node) dNil)
def zbj_c : CS := fun args hp R k => (Dec.d zbj_da args).bind fun x => (Dec.d zbj_db hp).bind fun y => (zbj_s y.1 x.2.1 x.2.2.1).bind fun r => k (.c (.o (.val (.int .i64 r)))) [.view .node y.1]
theorem zbj_val : ValidS Tryd.prog 19 zbj_c :=
 val_ok zbj_chk 7 zbj_Gok zbj_da zbj_db 1 (fun x y R k => (zbj_s y.1 x.2.1 x.2.2.1).bind fun r => k (.c (.o (.val (.int .i64 r)))) [.view .node y.1]) (by kernel_rfl)
  (fun x y R k => by simp only [Option.bind_assoc, obS]) (fun x => Nat.le_of_ble_eq_true rfl) (fun y => rfl) zbj_subs fun x y => zbj_eq y.1 x.2.1 x.2.2.1 _ _
def zbj_w : CQ := prepQ [(0, none, some (.node, 36))] (liftV [false] zbj_c)
theorem zbj_ok : ValidQ Tryd.prog 19 zbj_w := prep_quiet zbj_val

/-! ### signet/status.Place -/
def zbi_b0 : IQ :=
 (.seq
 (.reg 8 none [
  oP 26 (.mv (.t 5)),
  oP 27 (.mv (.t 6)),
  oP 28 (.call 18 [(.t 26), (.t 27), (.v (.string ⟨#[105, 100, 120]⟩))]),
  oP 29 (.mv (.t 5)),
  oP 30 (.mv (.t 6)),
  oP 31 (.call 18 [(.t 29), (.t 30), (.v (.string ⟨#[117, 114, 105]⟩))]),
  oP 7 (.mv (.t 28)),
  oP 8 (.mv (.t 31))])
 (.seq
 (.seq
 (.reg 61 none [
  oP 32 (.mv (.t 7)),
  oP 33 (.bin false .lss (.t 32) (.v (.int .i64 0))),
  oP 34 (.mv (.t 33)),
  oG 35 (.mv (.t 8)) 34 false,
  oG 36 (.bin false .lss (.t 35) (.v (.int .i64 0))) 34 false,
  oP 37 (.pick (.t 34) (.v (.bool true)) (.t 36)),
  oP 38 (.mv (.t 37)),
  oG 39 (.mv (.t 5)) 38 false,
  oG 40 (.mv (.t 7)) 38 false,
  oG 41 (.iaddr 6 (.t 39) (.t 40)) 38 false,
  oG 42 (.faddr 3 (.t 41)) 38 false,
  oG 43 (.load none (.t 42)) 38 false,
  oG 44 (.un .not (.t 43)) 38 false,
  oP 45 (.pick (.t 38) (.v (.bool true)) (.t 44)),
  oP 46 (.mv (.t 45)),
  oG 47 (.mv (.t 5)) 46 false,
  oG 48 (.mv (.t 7)) 46 false,
  oG 49 (.iaddr 6 (.t 47) (.t 48)) 46 false,
  oG 50 (.faddr 4 (.t 49)) 46 false,
  oG 51 (.load none (.t 50)) 46 false,
  oG 52 (.bin false .lss (.t 51) (.v (.int .i64 0))) 46 false,
  oP 53 (.pick (.t 46) (.v (.bool true)) (.t 52)),
  oP 54 (.mv (.t 53)),
  oG 55 (.mv (.t 5)) 54 false,
  oG 56 (.mv (.t 8)) 54 false,
  oG 57 (.iaddr 6 (.t 55) (.t 56)) 54 false,
  oG 58 (.faddr 0 (.t 57)) 54 false,
  oG 59 (.load none (.t 58)) 54 false,
  oG 60 (.bin false .neq (.t 59) (.v (.int .i64 5))) 54 false,
  oP 61 (.pick (.t 54) (.v (.bool true)) (.t 60))])
 (.cond (.t 61)
  (.seq
  (.reg 4 none [
   oP 2 (.mv (.v (.string ⟨#[]⟩))),
   oP 3 (.mv (.v (.int .i64 0))),
   oP 4 (.mv (.v (.int .i64 242)))])
  (.canon [] [2, 3, 4] .ret))
  .skip))
 (.seq
 (.reg 4 (some [0, 1, 2, 3, 4, 5, 6, 7, 8, 9, 10, 11, 12]) [
  oP 62 (.mv (.t 5)),
  oP 63 (.mv (.t 8)),
  oP 64 (.iaddr 6 (.t 62) (.t 63)),
  oP 65 (.faddr 2 (.t 64)),
  oP 66 (.load none (.t 65)),
  oP 67 (.mv (.t 5)),
  oP 68 (.mv (.t 7)),
  oP 69 (.iaddr 6 (.t 67) (.t 68)),
  oP 70 (.faddr 4 (.t 69)),
  oP 71 (.load none (.t 70)),
  oP 2 (.mv (.t 66)),
  oP 3 (.mv (.t 71)),
  oP 4 (.mv (.v (.int .i64 0)))])
 (.canon [] [2, 3, 4] .ret))))
def zbi_q : IQ :=
 (.seq
 (.reg 4 none [
  oP 1 (.box 27 15 (.t 0)),
  oP 2 (.mv (.v (.string ⟨#[]⟩))),
  oP 3 (.mv (.v (.int .i64 0))),
  oP 4 (.mv (.v (.int .i64 0)))])
 (.seq
 (.reg 5 none [
  oP 9 (.faddr 0 (.t 1)),
  oP 10 (.load none (.t 9)),
  oP 5 (.mv (.t 10))])
 (.seq
 (.seq
 (.reg 18 none [
  oP 11 (.mv (.t 5)),
  oP 12 (.call 17 [(.t 11)]),
  oP 13 (.un .not (.t 12)),
  oP 14 (.mv (.t 13)),
  oG 15 (.mv (.t 5)) 14 false,
  oG 16 (.call 18 [(.t 15), (.v (.int .i64 0)), (.v (.string ⟨#[115, 116, 97, 116, 117, 115]⟩))]) 14 false,
  oG 17 (.bin false .lss (.t 16) (.v (.int .i64 0))) 14 false,
  oP 18 (.pick (.t 14) (.v (.bool true)) (.t 17))])
 (.cond (.t 18)
  (.seq
  (.reg 4 none [
   oP 2 (.mv (.v (.string ⟨#[]⟩))),
   oP 3 (.mv (.v (.int .i64 0))),
   oP 4 (.mv (.v (.int .i64 137)))])
  (.canon [] [2, 3, 4] .ret))
  .skip))
 (.seq
 (.reg 6 none [
  oP 19 (.mv (.t 5)),
  oP 20 (.call 19 [(.t 19), (.v (.int .i64 0)), (.v (.string ⟨#[115, 116, 97, 116, 117, 115]⟩))]),
  oP 6 (.mv (.t 20))])
 (.seq
 (.seq
 (.reg 22 none [
  oP 21 (.mv (.t 6)),
  oP 22 (.bin false .geq (.t 21) (.v (.int .i64 0)))])
 (.cond (.t 22)
  (.reg 6 none [
   oP 23 (.mv (.t 5)),
   oP 24 (.mv (.t 6)),
   oP 25 (.call 19 [(.t 23), (.t 24), (.v (.string ⟨#[115, 116, 97, 116, 117, 115, 95, 108, 105, 115, 116]⟩))]),
   oP 6 (.mv (.t 25))])
  .skip))
 (.canon [] [5, 6] (.sub 0 zbi_b0)))))))
theorem zbi_chk : chk Tryd.prog 8 [] = some (zbi_q.erase, [.tmp 2, .tmp 3, .tmp 4], 72) := by kernel_rfl
def zbi_p0 (at_ : Int) (v : List Eng.Node) : Option (ByteArray × Int × Int) :=
 (zah_s v at_ (⟨#[105, 100, 120]⟩ : ByteArray)).bind fun r5 =>
 (zah_s v at_ (⟨#[117, 114, 105]⟩ : ByteArray)).bind fun r6 =>
 gd (((decide (r5 < (0 : Int))) || (decide (r6 < (0 : Int)))) = false → 0 ≤ r5 ∧ r5 < v.length) <|
 gd (((decide (r5 < (0 : Int))) || (decide (r6 < (0 : Int)))) = false → (Int.toNat r5) < v.length) <|
 gd (((decide (r5 < (0 : Int))) || (decide (r6 < (0 : Int)))) = false → (Int.toNat r5) < v.length) <|
 gd ((((decide (r5 < (0 : Int))) || (decide (r6 < (0 : Int)))) || (!((v.getD (Int.toNat r5) (ET.dft .node)).whole))) = false → 0 ≤ r5 ∧ r5 < v.length) <|
 gd ((((decide (r5 < (0 : Int))) || (decide (r6 < (0 : Int)))) || (!((v.getD (Int.toNat r5) (ET.dft .node)).whole))) = false → (Int.toNat r5) < v.length) <|
 gd ((((decide (r5 < (0 : Int))) || (decide (r6 < (0 : Int)))) || (!((v.getD (Int.toNat r5) (ET.dft .node)).whole))) = false → (Int.toNat r5) < v.length) <|
 gd (((((decide (r5 < (0 : Int))) || (decide (r6 < (0 : Int)))) || (!((v.getD (Int.toNat r5) (ET.dft .node)).whole))) || (decide (((v.getD (Int.toNat r5) (ET.dft .node)).int) < (0 : Int)))) = false → 0 ≤ r6 ∧ r6 < v.length) <|
 gd (((((decide (r5 < (0 : Int))) || (decide (r6 < (0 : Int)))) || (!((v.getD (Int.toNat r5) (ET.dft .node)).whole))) || (decide (((v.getD (Int.toNat r5) (ET.dft .node)).int) < (0 : Int)))) = false → (Int.toNat r6) < v.length) <|
 gd (((((decide (r5 < (0 : Int))) || (decide (r6 < (0 : Int)))) || (!((v.getD (Int.toNat r5) (ET.dft .node)).whole))) || (decide (((v.getD (Int.toNat r5) (ET.dft .node)).int) < (0 : Int)))) = false → (Int.toNat r6) < v.length) <|
 bif (((((decide (r5 < (0 : Int))) || (decide (r6 < (0 : Int)))) || (!((v.getD (Int.toNat r5) (ET.dft .node)).whole))) || (decide (((v.getD (Int.toNat r5) (ET.dft .node)).int) < (0 : Int)))) || (!decide (((v.getD (Int.toNat r6) (ET.dft .node)).kind) = (5 : Int)))) then (
  some ((⟨#[]⟩ : ByteArray), (0 : Int), (242 : Int)))
 else (
  gd (0 ≤ r6 ∧ r6 < v.length) <|
  gd ((Int.toNat r6) < v.length) <|
  gd ((Int.toNat r6) < v.length) <|
  gd (0 ≤ r5 ∧ r5 < v.length) <|
  gd ((Int.toNat r5) < v.length) <|
  gd ((Int.toNat r5) < v.length) <|
  some ((v.getD (Int.toNat r6) (ET.dft .node)).text, (v.getD (Int.toNat r5) (ET.dft .node)).int, (0 : Int)))
def zbi_s (c : api_Claims) : Option (ByteArray × Int × Int) :=
 (zbk_s c.value).bind fun r1 =>
 bif (!r1) then (
  some ((⟨#[]⟩ : ByteArray), (0 : Int), (137 : Int)))
 else (
  (zah_s c.value (0 : Int) (⟨#[115, 116, 97, 116, 117, 115]⟩ : ByteArray)).bind fun r2 =>
  bif decide (r2 < (0 : Int)) then (
   some ((⟨#[]⟩ : ByteArray), (0 : Int), (137 : Int)))
  else (
   (zbj_s c.value (0 : Int) (⟨#[115, 116, 97, 116, 117, 115]⟩ : ByteArray)).bind fun r3 =>
   bif decide ((0 : Int) ≤ r3) then (
    (zbj_s c.value r3 (⟨#[115, 116, 97, 116, 117, 115, 95, 108, 105, 115, 116]⟩ : ByteArray)).bind fun r4 =>
    (zbi_p0 r4 c.value).bind fun o7 =>
    some (o7.1, o7.2.1, o7.2.2))
   else (
    (zbi_p0 r3 c.value).bind fun o8 =>
    some (o8.1, o8.2.1, o8.2.2))))
def zbi_G : Nat → Option CQ := tblQ [(17, zbk_w), (18, zah_w), (19, zbj_w)]
theorem zbi_Gok : ∀ f C, zbi_G f = some C → ValidQ Tryd.prog f C := tblQ_valid ⟨zbk_ok, zah_ok, zbj_ok, trivial⟩
def zbi_d0 := (dQS (dCons (dSl 5 (dVC (dCO (dO 0)))) (dCons (dSl 6 (dVC (dCO (dI .i64)))) dNil)) (dCons (dView .node) (dCons (dView .str) dNil)))
def zbi_l0 : SubQ := fun S R kn kx kr => (Dec.d zbi_d0 S).bind fun x => (zbi_p0 x.1.2.1 x.2.1).bind fun r => kr ⟨[(2, [], .c (.o (.val (.string r.1)))), (3, [], .c (.o (.val (.int .i64 r.2.1)))), (4, [], .c (.o (.val (.int .i64 r.2.2))))], [], [.view .node x.2.1, .view .str x.2.2.1]⟩
def zbi_L : Nat → SubQ := tblL [(0, zbi_l0)]
theorem zbi_p0_eq (at_ : Int) (v : List Eng.Node) (c_aud : List ByteArray) (R : Type) (kn : QS → Option R) (kx : Nat → QS → Option R) (kr : QS → Option R) :
  interpQ zbi_L zbi_G 2 9 72 zbi_b0 ⟨[(5, [], .c (.o (.own 0))), (6, [], .c (.o (.val (.int .i64 at_))))], [], [.view .node v, .view .str c_aud]⟩ kn kx kr = (zbi_p0 at_ v).bind fun r => kr ⟨[(2, [], .c (.o (.val (.string r.1)))), (3, [], .c (.o (.val (.int .i64 r.2.1)))), (4, [], .c (.o (.val (.int .i64 r.2.2))))], [], [.view .node v, .view .str c_aud]⟩ := by
 simp only [zbi_p0, -eq_self, bind_cond, bind_gd, Option.bind_assoc, obS, Sum.elim_inl, Sum.elim_inr, bind_elim]
 kernel_rfl
theorem zbi_sub0 : SubOK zbi_L zbi_G 2 9 72 0 zbi_b0 := sub_ok' zbi_d0 (fun x R kn kx kr => (zbi_p0 x.1.2.1 x.2.1).bind fun r => kr ⟨[(2, [], .c (.o (.val (.string r.1)))), (3, [], .c (.o (.val (.int .i64 r.2.1)))), (4, [], .c (.o (.val (.int .i64 r.2.2))))], [], [.view .node x.2.1, .view .str x.2.2.1]⟩) (by kernel_rfl) fun x R kn kx kr => zbi_p0_eq x.1.2.1 x.2.1 x.2.2.1 R kn kx kr
theorem zbi_subs : subsOK zbi_L zbi_G 2 9 72 zbi_q := subs_of (show AllSub zbi_L zbi_G 2 9 72 [(0, zbi_b0)] from ⟨zbi_sub0, trivial⟩)
theorem zbi_eq (c : api_Claims) (R : Type) (k : SV → List SB → Option R) :
  fnQ zbi_L zbi_G 9 72 zbi_q [.tmp 2, .tmp 3, .tmp 4] [.c (.agg [.own 0, .val (.string c.iss), .val (.bool c.hasIss), .val (.string c.sub), .val (.bool c.hasSub), .own 1, .val (.bool c.hasAud), .val (.string c.jti), .val (.bool c.hasJti), .val (.bool c.exp_.has), .val (.int .i64 c.exp_.at_), .val (.bool c.nbf.has), .val (.int .i64 c.nbf.at_), .val (.bool c.iat.has), .val (.int .i64 c.iat.at_)])] [.view .node c.value, .view .str c.aud] k = (zbi_s c).bind fun r => k (.tup [.o (.val (.string r.1)), .o (.val (.int .i64 r.2.1)), .o (.val (.int .i64 r.2.2))]) [.view .node c.value, .view .str c.aud] := by
 simp only [zbi_s, -eq_self, bind_cond, bind_gd, Option.bind_assoc, obS, Sum.elim_inl, Sum.elim_inr, bind_elim]
 kernel_rfl
def zbi_da := (dCons (dVC (dCA (dCons (dO 0) (dCons dS (dCons dB (dCons dS (dCons dB (dCons (dO 1) (dCons dB (dCons dS (dCons dB (dCons dB (dCons (dI .i64) (dCons dB (dCons (dI .i64) (dCons dB (dCons (dI .i64) dNil))))))))))))))))) dNil)
def zbi_db := (dCons (dView .node) (dCons (dView .str) dNil))
def zbi_c : CS := fun args hp R k => (Dec.d zbi_da args).bind fun x => (Dec.d zbi_db hp).bind fun y => (zbi_s (⟨y.1, x.1.2.1, x.1.2.2.1, x.1.2.2.2.1, x.1.2.2.2.2.1, y.2.1, x.1.2.2.2.2.2.2.1, x.1.2.2.2.2.2.2.2.1, x.1.2.2.2.2.2.2.2.2.1, (⟨x.1.2.2.2.2.2.2.2.2.2.1, x.1.2.2.2.2.2.2.2.2.2.2.1⟩ : api_Time), (⟨x.1.2.2.2.2.2.2.2.2.2.2.2.1, x.1.2.2.2.2.2.2.2.2.2.2.2.2.1⟩ : api_Time), (⟨x.1.2.2.2.2.2.2.2.2.2.2.2.2.2.1, x.1.2.2.2.2.2.2.2.2.2.2.2.2.2.2.1⟩ : api_Time)⟩ : api_Claims)).bind fun r => k (.tup [.o (.val (.string r.1)), .o (.val (.int .i64 r.2.1)), .o (.val (.int .i64 r.2.2))]) [.view .node y.1, .view .str y.2.1]
theorem zbi_val : ValidS Tryd.prog 8 zbi_c :=
 val_ok zbi_chk 9 zbi_Gok zbi_da zbi_db 2 (fun x y R k => (zbi_s (⟨y.1, x.1.2.1, x.1.2.2.1, x.1.2.2.2.1, x.1.2.2.2.2.1, y.2.1, x.1.2.2.2.2.2.2.1, x.1.2.2.2.2.2.2.2.1, x.1.2.2.2.2.2.2.2.2.1, (⟨x.1.2.2.2.2.2.2.2.2.2.1, x.1.2.2.2.2.2.2.2.2.2.2.1⟩ : api_Time), (⟨x.1.2.2.2.2.2.2.2.2.2.2.2.1, x.1.2.2.2.2.2.2.2.2.2.2.2.2.1⟩ : api_Time), (⟨x.1.2.2.2.2.2.2.2.2.2.2.2.2.2.1, x.1.2.2.2.2.2.2.2.2.2.2.2.2.2.2.1⟩ : api_Time)⟩ : api_Claims)).bind fun r => k (.tup [.o (.val (.string r.1)), .o (.val (.int .i64 r.2.1)), .o (.val (.int .i64 r.2.2))]) [.view .node y.1, .view .str y.2.1]) (by kernel_rfl)
  (fun x y R k => by simp only [Option.bind_assoc, obS]) (fun x => Nat.le_of_ble_eq_true rfl) (fun y => rfl) zbi_subs fun x y => zbi_eq (⟨y.1, x.1.2.1, x.1.2.2.1, x.1.2.2.2.1, x.1.2.2.2.2.1, y.2.1, x.1.2.2.2.2.2.2.1, x.1.2.2.2.2.2.2.2.1, x.1.2.2.2.2.2.2.2.2.1, (⟨x.1.2.2.2.2.2.2.2.2.2.1, x.1.2.2.2.2.2.2.2.2.2.2.1⟩ : api_Time), (⟨x.1.2.2.2.2.2.2.2.2.2.2.2.1, x.1.2.2.2.2.2.2.2.2.2.2.2.2.1⟩ : api_Time), (⟨x.1.2.2.2.2.2.2.2.2.2.2.2.2.2.1, x.1.2.2.2.2.2.2.2.2.2.2.2.2.2.2.1⟩ : api_Time)⟩ : api_Claims) _ _
def zbi_w : CQ := prepQ [(0, some 0, some (.node, 36)), (0, some 5, some (.str, 9))] (liftV [false, false] zbi_c)
theorem zbi_ok : ValidQ Tryd.prog 8 zbi_w := prep_quiet zbi_val

/-! ### signet/signetref35.rooted -/
def zau_q : IQ :=
 (.seq
 (.reg 2 none [
  oP 2 (.mv (.v (.bool false)))])
 (.seq
 (.reg 3 none [
  oP 4 (.mv (.t 0)),
  oP 5 (.call 38 [(.t 4)]),
  oP 3 (.mv (.t 5))])
 (.seq
 (.reg 2 none [
  oP 6 (.mv (.t 3)),
  oP 7 (.mv (.t 6)),
  oG 8 (.mv (.t 0)) 7 true,
  oG 9 (.iaddr 6 (.t 8) (.v (.int .i64 0))) 7 true,
  oG 10 (.faddr 0 (.t 9)) 7 true,
  oG 11 (.load none (.t 10)) 7 true,
  oG 12 (.bin false .eql (.t 11) (.v (.int .i64 7))) 7 true,
  oP 13 (.pick (.t 7) (.t 12) (.v (.bool false))),
  oP 2 (.mv (.t 13))])
 (.canon [] [2] .ret))))
theorem zau_chk : chk Tryd.prog 20 [] = some (zau_q.erase, [.tmp 2], 14) := by kernel_rfl
def zau_s (v : (List Eng.Node)) : Option Bool :=
 (zaz_s v).bind fun r1 =>
 gd (r1 = true → 0 ≤ (0 : Int) ∧ (0 : Int) < v.length) <|
 gd (r1 = true → (Int.toNat (0 : Int)) < v.length) <|
 gd (r1 = true → (Int.toNat (0 : Int)) < v.length) <|
 some (r1 && (decide (((v.getD (Int.toNat (0 : Int)) (ET.dft .node)).kind) = (7 : Int))))
def zau_G : Nat → Option CQ := tblQ [(38, zaz_w)]
theorem zau_Gok : ∀ f C, zau_G f = some C → ValidQ Tryd.prog f C := tblQ_valid ⟨zaz_ok, trivial⟩
def zau_L : Nat → SubQ := tblL []
theorem zau_subs : subsOK zau_L zau_G 1 4 14 zau_q := subs_of (show AllSub zau_L zau_G 1 4 14 [] from trivial)
theorem zau_eq (v : (List Eng.Node)) (R : Type) (k : SV → List SB → Option R) :
  fnQ zau_L zau_G 4 14 zau_q [.tmp 2] [.c (.o (.own 0))] [.view .node v] k = (zau_s v).bind fun r => k (.c (.o (.val (.bool r)))) [.view .node v] := by
 simp only [zau_s, -eq_self, bind_cond, bind_gd, Option.bind_assoc, obS, Sum.elim_inl, Sum.elim_inr, bind_elim]
 kernel_rfl
def zau_da := (dCons (dVC (dCO (dO 0))) dNil)
def zau_db := (dCons (dView .node) dNil)
def zau_c : CS := fun args hp R k => (Dec.d zau_da args).bind fun x => (Dec.d zau_db hp).bind fun y => (zau_s y.1).bind fun r => k (.c (.o (.val (.bool r)))) [.view .node y.1]
theorem zau_val : ValidS Tryd.prog 20 zau_c :=
 val_ok zau_chk 4 zau_Gok zau_da zau_db 1 (fun x y R k => (zau_s y.1).bind fun r => k (.c (.o (.val (.bool r)))) [.view .node y.1]) (by kernel_rfl)
  (fun x y R k => by simp only [Option.bind_assoc, obS]) (fun x => Nat.le_of_ble_eq_true rfl) (fun y => rfl) zau_subs fun x y => zau_eq y.1 _ _
def zau_w : CQ := prepQ [(0, none, some (.node, 36))] (liftV [false] zau_c)
theorem zau_ok : ValidQ Tryd.prog 20 zau_w := prep_quiet zau_val

/-! ### signet/signetref35.inner -/
def zat_q : IQ :=
 (.seq
 (.reg 6 none [
  oP 6 (.mv (.v (.int .i64 0)))])
 (.seq
 (.reg 7 none [
  oP 8 (.mv (.t 0)),
  oP 9 (.mv (.t 1)),
  oP 10 (.mv (.t 2)),
  oP 11 (.call 21 [(.t 8), (.t 9), (.t 10)]),
  oP 7 (.mv (.t 11))])
 (.seq
 (.seq
 (.reg 21 none [
  oP 12 (.mv (.t 7)),
  oP 13 (.bin false .lss (.t 12) (.v (.int .i64 0))),
  oP 14 (.mv (.t 13)),
  oG 15 (.mv (.t 0)) 14 false,
  oG 16 (.mv (.t 7)) 14 false,
  oG 17 (.iaddr 6 (.t 15) (.t 16)) 14 false,
  oG 18 (.faddr 0 (.t 17)) 14 false,
  oG 19 (.load none (.t 18)) 14 false,
  oG 20 (.bin false .neq (.t 19) (.v (.int .i64 7))) 14 false,
  oP 21 (.pick (.t 14) (.v (.bool true)) (.t 20))])
 (.cond (.t 21)
  (.seq
  (.reg 6 none [
   oP 6 (.mv (.v (.int .i64 (-1))))])
  (.canon [] [6] .ret))
  .skip))
 (.seq
 (.reg 6 none [
  oP 22 (.mv (.t 7)),
  oP 6 (.mv (.t 22))])
 (.canon [] [6] .ret)))))
theorem zat_chk : chk Tryd.prog 22 [] = some (zat_q.erase, [.tmp 6], 23) := by kernel_rfl
def zat_s (v : (List Eng.Node)) (at_ : Int) (name : ByteArray) : Option Int :=
 (zay_s v at_ name).bind fun r1 =>
 gd ((decide (r1 < (0 : Int))) = false → 0 ≤ r1 ∧ r1 < v.length) <|
 gd ((decide (r1 < (0 : Int))) = false → (Int.toNat r1) < v.length) <|
 gd ((decide (r1 < (0 : Int))) = false → (Int.toNat r1) < v.length) <|
 bif ((decide (r1 < (0 : Int))) || (!decide (((v.getD (Int.toNat r1) (ET.dft .node)).kind) = (7 : Int)))) then (
  some (-1 : Int))
 else (
  some r1)
def zat_G : Nat → Option CQ := tblQ [(21, zay_w)]
theorem zat_Gok : ∀ f C, zat_G f = some C → ValidQ Tryd.prog f C := tblQ_valid ⟨zay_ok, trivial⟩
def zat_L : Nat → SubQ := tblL []
theorem zat_subs : subsOK zat_L zat_G 1 8 23 zat_q := subs_of (show AllSub zat_L zat_G 1 8 23 [] from trivial)
theorem zat_eq (v : (List Eng.Node)) (at_ : Int) (name : ByteArray) (R : Type) (k : SV → List SB → Option R) :
  fnQ zat_L zat_G 8 23 zat_q [.tmp 6] [.c (.o (.own 0)), .c (.o (.val (.int .i64 at_))), .c (.o (.val (.string name)))] [.view .node v] k = (zat_s v at_ name).bind fun r => k (.c (.o (.val (.int .i64 r)))) [.view .node v] := by
 simp only [zat_s, -eq_self, bind_cond, bind_gd, Option.bind_assoc, obS, Sum.elim_inl, Sum.elim_inr, bind_elim]
 kernel_rfl
def zat_da := (dCons (dVC (dCO (dO 0))) (dCons (dVC (dCO (dI .i64))) (dCons (dVC (dCO dS)) dNil)))
def zat_db := (dCons (dView .node) dNil)
def zat_c : CS := fun args hp R k => (Dec.d zat_da args).bind fun x => (Dec.d zat_db hp).bind fun y => (zat_s y.1 x.2.1 x.2.2.1).bind fun r => k (.c (.o (.val (.int .i64 r)))) [.view .node y.1]
theorem zat_val : ValidS Tryd.prog 22 zat_c :=
 val_ok zat_chk 8 zat_Gok zat_da zat_db 1 (fun x y R k => (zat_s y.1 x.2.1 x.2.2.1).bind fun r => k (.c (.o (.val (.int .i64 r)))) [.view .node y.1]) (by kernel_rfl)
  (fun x y R k => by simp only [Option.bind_assoc, obS]) (fun x => Nat.le_of_ble_eq_true rfl) (fun y => rfl) zat_subs fun x y => zat_eq y.1 x.2.1 x.2.2.1 _ _
def zat_w : CQ := prepQ [(0, none, some (.node, 36))] (liftV [false] zat_c)
theorem zat_ok : ValidQ Tryd.prog 22 zat_w := prep_quiet zat_val

/-! ### signet/signetref35.Place -/
def zas_b0 : IQ :=
 (.seq
 (.reg 9 none [
  oP 29 (.mv (.t 5)),
  oP 30 (.mv (.t 8)),
  oP 31 (.call 21 [(.t 29), (.t 30), (.v (.string ⟨#[105, 100, 120]⟩))]),
  oP 9 (.mv (.t 31))])
 (.seq
 (.reg 10 none [
  oP 32 (.mv (.t 5)),
  oP 33 (.mv (.t 8)),
  oP 34 (.call 21 [(.t 32), (.t 33), (.v (.string ⟨#[117, 114, 105]⟩))]),
  oP 10 (.mv (.t 34))])
 (.seq
 (.seq
 (.reg 68 none [
  oP 35 (.mv (.t 8)),
  oP 36 (.bin false .lss (.t 35) (.v (.int .i64 0))),
  oP 37 (.mv (.t 36)),
  oG 38 (.mv (.t 9)) 37 false,
  oG 39 (.bin false .lss (.t 38) (.v (.int .i64 0))) 37 false,
  oP 40 (.pick (.t 37) (.v (.bool true)) (.t 39)),
  oP 41 (.mv (.t 40)),
  oG 42 (.mv (.t 10)) 41 false,
  oG 43 (.bin false .lss (.t 42) (.v (.int .i64 0))) 41 false,
  oP 44 (.pick (.t 41) (.v (.bool true)) (.t 43)),
  oP 45 (.mv (.t 44)),
  oG 46 (.mv (.t 5)) 45 false,
  oG 47 (.mv (.t 9)) 45 false,
  oG 48 (.iaddr 6 (.t 46) (.t 47)) 45 false,
  oG 49 (.faddr 3 (.t 48)) 45 false,
  oG 50 (.load none (.t 49)) 45 false,
  oG 51 (.un .not (.t 50)) 45 false,
  oP 52 (.pick (.t 45) (.v (.bool true)) (.t 51)),
  oP 53 (.mv (.t 52)),
  oG 54 (.mv (.t 5)) 53 false,
  oG 55 (.mv (.t 9)) 53 false,
  oG 56 (.iaddr 6 (.t 54) (.t 55)) 53 false,
  oG 57 (.faddr 4 (.t 56)) 53 false,
  oG 58 (.load none (.t 57)) 53 false,
  oG 59 (.bin false .lss (.t 58) (.v (.int .i64 0))) 53 false,
  oP 60 (.pick (.t 53) (.v (.bool true)) (.t 59)),
  oP 61 (.mv (.t 60)),
  oG 62 (.mv (.t 5)) 61 false,
  oG 63 (.mv (.t 10)) 61 false,
  oG 64 (.iaddr 6 (.t 62) (.t 63)) 61 false,
  oG 65 (.faddr 0 (.t 64)) 61 false,
  oG 66 (.load none (.t 65)) 61 false,
  oG 67 (.bin false .neq (.t 66) (.v (.int .i64 5))) 61 false,
  oP 68 (.pick (.t 61) (.v (.bool true)) (.t 67))])
 (.cond (.t 68)
  (.seq
  (.reg 4 none [
   oP 2 (.mv (.v (.string ⟨#[]⟩))),
   oP 3 (.mv (.v (.int .i64 0))),
   oP 4 (.mv (.v (.int .i64 242)))])
  (.canon [] [2, 3, 4] .ret))
  .skip))
 (.seq
 (.reg 4 (some [0, 1, 2, 3, 4, 5, 6, 7, 8, 9, 10, 11, 12]) [
  oP 69 (.mv (.t 5)),
  oP 70 (.mv (.t 10)),
  oP 71 (.iaddr 6 (.t 69) (.t 70)),
  oP 72 (.faddr 2 (.t 71)),
  oP 73 (.load none (.t 72)),
  oP 74 (.mv (.t 5)),
  oP 75 (.mv (.t 9)),
  oP 76 (.iaddr 6 (.t 74) (.t 75)),
  oP 77 (.faddr 4 (.t 76)),
  oP 78 (.load none (.t 77)),
  oP 2 (.mv (.t 73)),
  oP 3 (.mv (.t 78)),
  oP 4 (.mv (.v (.int .i64 0)))])
 (.canon [] [2, 3, 4] .ret)))))
def zas_q : IQ :=
 (.seq
 (.reg 4 none [
  oP 1 (.box 27 15 (.t 0)),
  oP 2 (.mv (.v (.string ⟨#[]⟩))),
  oP 3 (.mv (.v (.int .i64 0))),
  oP 4 (.mv (.v (.int .i64 0)))])
 (.seq
 (.reg 5 none [
  oP 11 (.faddr 0 (.t 1)),
  oP 12 (.load none (.t 11)),
  oP 5 (.mv (.t 12))])
 (.seq
 (.reg 6 none [
  oP 13 (.mv (.t 5)),
  oP 14 (.call 20 [(.t 13)]),
  oP 6 (.mv (.t 14))])
 (.seq
 (.seq
 (.reg 21 none [
  oP 15 (.mv (.t 6)),
  oP 16 (.un .not (.t 15)),
  oP 17 (.mv (.t 16)),
  oG 18 (.mv (.t 5)) 17 false,
  oG 19 (.call 21 [(.t 18), (.v (.int .i64 0)), (.v (.string ⟨#[115, 116, 97, 116, 117, 115]⟩))]) 17 false,
  oG 20 (.bin false .lss (.t 19) (.v (.int .i64 0))) 17 false,
  oP 21 (.pick (.t 17) (.v (.bool true)) (.t 20))])
 (.cond (.t 21)
  (.seq
  (.reg 4 none [
   oP 2 (.mv (.v (.string ⟨#[]⟩))),
   oP 3 (.mv (.v (.int .i64 0))),
   oP 4 (.mv (.v (.int .i64 137)))])
  (.canon [] [2, 3, 4] .ret))
  .skip))
 (.seq
 (.reg 7 none [
  oP 22 (.mv (.t 5)),
  oP 23 (.call 22 [(.t 22), (.v (.int .i64 0)), (.v (.string ⟨#[115, 116, 97, 116, 117, 115]⟩))]),
  oP 7 (.mv (.t 23))])
 (.seq
 (.reg 8 none [
  oP 8 (.mv (.v (.int .i64 (-1))))])
 (.seq
 (.seq
 (.reg 25 none [
  oP 24 (.mv (.t 7)),
  oP 25 (.bin false .geq (.t 24) (.v (.int .i64 0)))])
 (.cond (.t 25)
  (.reg 8 none [
   oP 26 (.mv (.t 5)),
   oP 27 (.mv (.t 7)),
   oP 28 (.call 22 [(.t 26), (.t 27), (.v (.string ⟨#[115, 116, 97, 116, 117, 115, 95, 108, 105, 115, 116]⟩))]),
   oP 8 (.mv (.t 28))])
  .skip))
 (.canon [] [5, 8] (.sub 0 zas_b0)))))))))
theorem zas_chk : chk Tryd.prog 9 [] = some (zas_q.erase, [.tmp 2, .tmp 3, .tmp 4], 79) := by kernel_rfl
def zas_p0 (s : Int) (v : List Eng.Node) : Option (ByteArray × Int × Int) :=
 (zay_s v s (⟨#[105, 100, 120]⟩ : ByteArray)).bind fun r5 =>
 (zay_s v s (⟨#[117, 114, 105]⟩ : ByteArray)).bind fun r6 =>
 gd ((((decide (s < (0 : Int))) || (decide (r5 < (0 : Int)))) || (decide (r6 < (0 : Int)))) = false → 0 ≤ r5 ∧ r5 < v.length) <|
 gd ((((decide (s < (0 : Int))) || (decide (r5 < (0 : Int)))) || (decide (r6 < (0 : Int)))) = false → (Int.toNat r5) < v.length) <|
 gd ((((decide (s < (0 : Int))) || (decide (r5 < (0 : Int)))) || (decide (r6 < (0 : Int)))) = false → (Int.toNat r5) < v.length) <|
 gd (((((decide (s < (0 : Int))) || (decide (r5 < (0 : Int)))) || (decide (r6 < (0 : Int)))) || (!((v.getD (Int.toNat r5) (ET.dft .node)).whole))) = false → 0 ≤ r5 ∧ r5 < v.length) <|
 gd (((((decide (s < (0 : Int))) || (decide (r5 < (0 : Int)))) || (decide (r6 < (0 : Int)))) || (!((v.getD (Int.toNat r5) (ET.dft .node)).whole))) = false → (Int.toNat r5) < v.length) <|
 gd (((((decide (s < (0 : Int))) || (decide (r5 < (0 : Int)))) || (decide (r6 < (0 : Int)))) || (!((v.getD (Int.toNat r5) (ET.dft .node)).whole))) = false → (Int.toNat r5) < v.length) <|
 gd ((((((decide (s < (0 : Int))) || (decide (r5 < (0 : Int)))) || (decide (r6 < (0 : Int)))) || (!((v.getD (Int.toNat r5) (ET.dft .node)).whole))) || (decide (((v.getD (Int.toNat r5) (ET.dft .node)).int) < (0 : Int)))) = false → 0 ≤ r6 ∧ r6 < v.length) <|
 gd ((((((decide (s < (0 : Int))) || (decide (r5 < (0 : Int)))) || (decide (r6 < (0 : Int)))) || (!((v.getD (Int.toNat r5) (ET.dft .node)).whole))) || (decide (((v.getD (Int.toNat r5) (ET.dft .node)).int) < (0 : Int)))) = false → (Int.toNat r6) < v.length) <|
 gd ((((((decide (s < (0 : Int))) || (decide (r5 < (0 : Int)))) || (decide (r6 < (0 : Int)))) || (!((v.getD (Int.toNat r5) (ET.dft .node)).whole))) || (decide (((v.getD (Int.toNat r5) (ET.dft .node)).int) < (0 : Int)))) = false → (Int.toNat r6) < v.length) <|
 bif ((((((decide (s < (0 : Int))) || (decide (r5 < (0 : Int)))) || (decide (r6 < (0 : Int)))) || (!((v.getD (Int.toNat r5) (ET.dft .node)).whole))) || (decide (((v.getD (Int.toNat r5) (ET.dft .node)).int) < (0 : Int)))) || (!decide (((v.getD (Int.toNat r6) (ET.dft .node)).kind) = (5 : Int)))) then (
  some ((⟨#[]⟩ : ByteArray), (0 : Int), (242 : Int)))
 else (
  gd (0 ≤ r6 ∧ r6 < v.length) <|
  gd ((Int.toNat r6) < v.length) <|
  gd ((Int.toNat r6) < v.length) <|
  gd (0 ≤ r5 ∧ r5 < v.length) <|
  gd ((Int.toNat r5) < v.length) <|
  gd ((Int.toNat r5) < v.length) <|
  some ((v.getD (Int.toNat r6) (ET.dft .node)).text, (v.getD (Int.toNat r5) (ET.dft .node)).int, (0 : Int)))
def zas_s (c : api_Claims) : Option (ByteArray × Int × Int) :=
 (zau_s c.value).bind fun r1 =>
 bif (!r1) then (
  some ((⟨#[]⟩ : ByteArray), (0 : Int), (137 : Int)))
 else (
  (zay_s c.value (0 : Int) (⟨#[115, 116, 97, 116, 117, 115]⟩ : ByteArray)).bind fun r2 =>
  bif decide (r2 < (0 : Int)) then (
   some ((⟨#[]⟩ : ByteArray), (0 : Int), (137 : Int)))
  else (
   (zat_s c.value (0 : Int) (⟨#[115, 116, 97, 116, 117, 115]⟩ : ByteArray)).bind fun r3 =>
   bif decide ((0 : Int) ≤ r3) then (
    (zat_s c.value r3 (⟨#[115, 116, 97, 116, 117, 115, 95, 108, 105, 115, 116]⟩ : ByteArray)).bind fun r4 =>
    (zas_p0 r4 c.value).bind fun o7 =>
    some (o7.1, o7.2.1, o7.2.2))
   else (
    (zas_p0 (-1 : Int) c.value).bind fun o8 =>
    some (o8.1, o8.2.1, o8.2.2))))
def zas_G : Nat → Option CQ := tblQ [(20, zau_w), (21, zay_w), (22, zat_w)]
theorem zas_Gok : ∀ f C, zas_G f = some C → ValidQ Tryd.prog f C := tblQ_valid ⟨zau_ok, zay_ok, zat_ok, trivial⟩
def zas_d0 := (dQS (dCons (dSl 5 (dVC (dCO (dO 0)))) (dCons (dSl 8 (dVC (dCO (dI .i64)))) dNil)) (dCons (dView .node) (dCons (dView .str) dNil)))
def zas_l0 : SubQ := fun S R kn kx kr => (Dec.d zas_d0 S).bind fun x => (zas_p0 x.1.2.1 x.2.1).bind fun r => kr ⟨[(2, [], .c (.o (.val (.string r.1)))), (3, [], .c (.o (.val (.int .i64 r.2.1)))), (4, [], .c (.o (.val (.int .i64 r.2.2))))], [], [.view .node x.2.1, .view .str x.2.2.1]⟩
def zas_L : Nat → SubQ := tblL [(0, zas_l0)]
theorem zas_p0_eq (s : Int) (v : List Eng.Node) (c_aud : List ByteArray) (R : Type) (kn : QS → Option R) (kx : Nat → QS → Option R) (kr : QS → Option R) :
  interpQ zas_L zas_G 2 11 79 zas_b0 ⟨[(5, [], .c (.o (.own 0))), (8, [], .c (.o (.val (.int .i64 s))))], [], [.view .node v, .view .str c_aud]⟩ kn kx kr = (zas_p0 s v).bind fun r => kr ⟨[(2, [], .c (.o (.val (.string r.1)))), (3, [], .c (.o (.val (.int .i64 r.2.1)))), (4, [], .c (.o (.val (.int .i64 r.2.2))))], [], [.view .node v, .view .str c_aud]⟩ := by
 simp only [zas_p0, -eq_self, bind_cond, bind_gd, Option.bind_assoc, obS, Sum.elim_inl, Sum.elim_inr, bind_elim]
 kernel_rfl
theorem zas_sub0 : SubOK zas_L zas_G 2 11 79 0 zas_b0 := sub_ok' zas_d0 (fun x R kn kx kr => (zas_p0 x.1.2.1 x.2.1).bind fun r => kr ⟨[(2, [], .c (.o (.val (.string r.1)))), (3, [], .c (.o (.val (.int .i64 r.2.1)))), (4, [], .c (.o (.val (.int .i64 r.2.2))))], [], [.view .node x.2.1, .view .str x.2.2.1]⟩) (by kernel_rfl) fun x R kn kx kr => zas_p0_eq x.1.2.1 x.2.1 x.2.2.1 R kn kx kr
theorem zas_subs : subsOK zas_L zas_G 2 11 79 zas_q := subs_of (show AllSub zas_L zas_G 2 11 79 [(0, zas_b0)] from ⟨zas_sub0, trivial⟩)
theorem zas_eq (c : api_Claims) (R : Type) (k : SV → List SB → Option R) :
  fnQ zas_L zas_G 11 79 zas_q [.tmp 2, .tmp 3, .tmp 4] [.c (.agg [.own 0, .val (.string c.iss), .val (.bool c.hasIss), .val (.string c.sub), .val (.bool c.hasSub), .own 1, .val (.bool c.hasAud), .val (.string c.jti), .val (.bool c.hasJti), .val (.bool c.exp_.has), .val (.int .i64 c.exp_.at_), .val (.bool c.nbf.has), .val (.int .i64 c.nbf.at_), .val (.bool c.iat.has), .val (.int .i64 c.iat.at_)])] [.view .node c.value, .view .str c.aud] k = (zas_s c).bind fun r => k (.tup [.o (.val (.string r.1)), .o (.val (.int .i64 r.2.1)), .o (.val (.int .i64 r.2.2))]) [.view .node c.value, .view .str c.aud] := by
 simp only [zas_s, -eq_self, bind_cond, bind_gd, Option.bind_assoc, obS, Sum.elim_inl, Sum.elim_inr, bind_elim]
 kernel_rfl
def zas_da := (dCons (dVC (dCA (dCons (dO 0) (dCons dS (dCons dB (dCons dS (dCons dB (dCons (dO 1) (dCons dB (dCons dS (dCons dB (dCons dB (dCons (dI .i64) (dCons dB (dCons (dI .i64) (dCons dB (dCons (dI .i64) dNil))))))))))))))))) dNil)
def zas_db := (dCons (dView .node) (dCons (dView .str) dNil))
def zas_c : CS := fun args hp R k => (Dec.d zas_da args).bind fun x => (Dec.d zas_db hp).bind fun y => (zas_s (⟨y.1, x.1.2.1, x.1.2.2.1, x.1.2.2.2.1, x.1.2.2.2.2.1, y.2.1, x.1.2.2.2.2.2.2.1, x.1.2.2.2.2.2.2.2.1, x.1.2.2.2.2.2.2.2.2.1, (⟨x.1.2.2.2.2.2.2.2.2.2.1, x.1.2.2.2.2.2.2.2.2.2.2.1⟩ : api_Time), (⟨x.1.2.2.2.2.2.2.2.2.2.2.2.1, x.1.2.2.2.2.2.2.2.2.2.2.2.2.1⟩ : api_Time), (⟨x.1.2.2.2.2.2.2.2.2.2.2.2.2.2.1, x.1.2.2.2.2.2.2.2.2.2.2.2.2.2.2.1⟩ : api_Time)⟩ : api_Claims)).bind fun r => k (.tup [.o (.val (.string r.1)), .o (.val (.int .i64 r.2.1)), .o (.val (.int .i64 r.2.2))]) [.view .node y.1, .view .str y.2.1]
theorem zas_val : ValidS Tryd.prog 9 zas_c :=
 val_ok zas_chk 11 zas_Gok zas_da zas_db 2 (fun x y R k => (zas_s (⟨y.1, x.1.2.1, x.1.2.2.1, x.1.2.2.2.1, x.1.2.2.2.2.1, y.2.1, x.1.2.2.2.2.2.2.1, x.1.2.2.2.2.2.2.2.1, x.1.2.2.2.2.2.2.2.2.1, (⟨x.1.2.2.2.2.2.2.2.2.2.1, x.1.2.2.2.2.2.2.2.2.2.2.1⟩ : api_Time), (⟨x.1.2.2.2.2.2.2.2.2.2.2.2.1, x.1.2.2.2.2.2.2.2.2.2.2.2.2.1⟩ : api_Time), (⟨x.1.2.2.2.2.2.2.2.2.2.2.2.2.2.1, x.1.2.2.2.2.2.2.2.2.2.2.2.2.2.2.1⟩ : api_Time)⟩ : api_Claims)).bind fun r => k (.tup [.o (.val (.string r.1)), .o (.val (.int .i64 r.2.1)), .o (.val (.int .i64 r.2.2))]) [.view .node y.1, .view .str y.2.1]) (by kernel_rfl)
  (fun x y R k => by simp only [Option.bind_assoc, obS]) (fun x => Nat.le_of_ble_eq_true rfl) (fun y => rfl) zas_subs fun x y => zas_eq (⟨y.1, x.1.2.1, x.1.2.2.1, x.1.2.2.2.1, x.1.2.2.2.2.1, y.2.1, x.1.2.2.2.2.2.2.1, x.1.2.2.2.2.2.2.2.1, x.1.2.2.2.2.2.2.2.2.1, (⟨x.1.2.2.2.2.2.2.2.2.2.1, x.1.2.2.2.2.2.2.2.2.2.2.1⟩ : api_Time), (⟨x.1.2.2.2.2.2.2.2.2.2.2.2.1, x.1.2.2.2.2.2.2.2.2.2.2.2.2.1⟩ : api_Time), (⟨x.1.2.2.2.2.2.2.2.2.2.2.2.2.2.1, x.1.2.2.2.2.2.2.2.2.2.2.2.2.2.2.1⟩ : api_Time)⟩ : api_Claims) _ _
def zas_w : CQ := prepQ [(0, some 0, some (.node, 36)), (0, some 5, some (.str, 9))] (liftV [false, false] zas_c)
theorem zas_ok : ValidQ Tryd.prog 9 zas_w := prep_quiet zas_val

/-! ### signet/signetlaw35.still -/
def zam_b0 : IQ :=
 (.loop [0, 1, 5]
  (.seq
  (.seq
  (.reg 15 none [
   oP 12 (.mv (.t 5)),
   oP 13 (.mv (.t 1)),
   oP 14 (.len (.t 13)),
   oP 15 (.bin false .lss (.t 12) (.t 14))])
  (.cond (.t 15)
   .skip
   (.canon [] [0, 1] (.exit 0))))
  (.seq
  (.block 1
   (.seq
   (.reg 26 (some [0, 1, 2, 3, 4, 5, 6, 7, 8]) [
    oP 18 (.mv (.t 0)),
    oP 19 (.mv (.t 5)),
    oP 20 (.iaddr 6 (.t 18) (.t 19)),
    oP 21 (.load (some 6) (.t 20)),
    oP 22 (.mv (.t 1)),
    oP 23 (.mv (.t 5)),
    oP 24 (.iaddr 6 (.t 22) (.t 23)),
    oP 25 (.load (some 6) (.t 24)),
    oP 26 (.ext (.aggEq true [.int .i64, .str, .str, .bool, .int .i64, .int .i64]) [(.t 21), (.t 25)])])
   (.cond (.t 26)
    (.seq
    (.reg 4 none [
     oP 4 (.mv (.v (.bool false)))])
    (.canon [] [4] .ret))
    .skip)))
  (.reg 5 none [
   oP 16 (.mv (.t 5)),
   oP 17 (.bin false .add (.t 16) (.v (.int .i64 1))),
   oP 5 (.mv (.t 17))]))))
def zam_q : IQ :=
 (.seq
 (.reg 4 none [
  oP 4 (.mv (.v (.bool false)))])
 (.seq
 (.seq
 (.reg 11 none [
  oP 7 (.mv (.t 0)),
  oP 8 (.len (.t 7)),
  oP 9 (.mv (.t 1)),
  oP 10 (.len (.t 9)),
  oP 11 (.bin false .neq (.t 8) (.t 10))])
 (.cond (.t 11)
  (.seq
  (.reg 4 none [
   oP 4 (.mv (.v (.bool false)))])
  (.canon [] [4] .ret))
  .skip))
 (.seq
 (.seq
 (.reg 5 none [
  oP 5 (.mv (.v (.int .i64 0)))])
 (.block 0
  (.canon [] [0, 1, 5] (.sub 0 zam_b0))))
 (.seq
 (.reg 6 none [
  oP 27 (.mv (.t 0)),
  oP 28 (.mv (.t 1)),
  oP 29 (.len (.t 28)),
  oP 30 (.bin false .add (.t 29) (.v (.int .i64 2))),
  oP 31 (.sub (some 6) (.t 27) none (some (.t 30))),
  oP 6 (.mv (.t 31))])
 (.seq
 (.reg 4 none [
  oP 32 (.mv (.t 6)),
  oP 33 (.mv (.t 1)),
  oP 34 (.len (.t 33)),
  oP 35 (.iaddr 6 (.t 32) (.t 34)),
  oP 36 (.faddr 0 (.t 35)),
  oP 37 (.load none (.t 36)),
  oP 38 (.bin false .eql (.t 37) (.v (.int .i64 91))),
  oP 39 (.mv (.t 38)),
  oG 40 (.mv (.t 6)) 39 true,
  oG 41 (.mv (.t 1)) 39 true,
  oG 42 (.len (.t 41)) 39 true,
  oG 43 (.bin false .add (.t 42) (.v (.int .i64 1))) 39 true,
  oG 44 (.iaddr 6 (.t 40) (.t 43)) 39 true,
  oG 45 (.faddr 0 (.t 44)) 39 true,
  oG 46 (.load none (.t 45)) 39 true,
  oG 47 (.bin false .eql (.t 46) (.v (.int .i64 92))) 39 true,
  oP 48 (.pick (.t 39) (.t 47) (.v (.bool false))),
  oP 4 (.mv (.t 48))])
 (.canon [] [4] .ret))))))
theorem zam_chk : chk Tryd.prog 10 [] = some (zam_q.erase, [.tmp 4], 49) := by kernel_rfl
def zam_p0_step (i : Int) (given_lo : Nat) (given_n : Nat) (v : List Eng.Node) (given : List Eng.Node) : Option (Int ⊕ (Bool ⊕ Unit)) :=
 bif decide (i < (v.length : Int)) then (
  gd (0 ≤ i ∧ i < ((given_n : Nat) : Int)) <|
  gd ((given_lo + Int.toNat i) < given.length) <|
  gd (0 ≤ i ∧ i < v.length) <|
  gd ((Int.toNat i) < v.length) <|
  bif (!(decide (((given.getD (given_lo + Int.toNat i) (ET.dft .node)).kind) = ((v.getD (Int.toNat i) (ET.dft .node)).kind)) && (decide (((given.getD (given_lo + Int.toNat i) (ET.dft .node)).key) = ((v.getD (Int.toNat i) (ET.dft .node)).key)) && (decide (((given.getD (given_lo + Int.toNat i) (ET.dft .node)).text) = ((v.getD (Int.toNat i) (ET.dft .node)).text)) && ((((given.getD (given_lo + Int.toNat i) (ET.dft .node)).whole) == ((v.getD (Int.toNat i) (ET.dft .node)).whole)) && (decide (((given.getD (given_lo + Int.toNat i) (ET.dft .node)).int) = ((v.getD (Int.toNat i) (ET.dft .node)).int)) && (decide (((given.getD (given_lo + Int.toNat i) (ET.dft .node)).kids) = ((v.getD (Int.toNat i) (ET.dft .node)).kids)) && true))))))) then (
   some (.inr (.inl false)))
  else (
   gd (InI64 (i + (1 : Int))) <|
   some (.inl (i + (1 : Int)))))
 else (
  some (.inr (.inr ())))
def zam_p0 (i : Int) (given_lo : Nat) (given_n : Nat) (v : List Eng.Node) (given : List Eng.Node) : Option (Bool ⊕ Unit) :=
 whileO (fun x : Int => zam_p0_step x given_lo given_n v given) i
def zam_s (given : (List Eng.Node)) (v : (List Eng.Node)) (given_lo : Nat) (given_n : Nat) : Option Bool :=
 bif (!decide (((given_n : Nat) : Int) = (v.length : Int))) then (
  some false)
 else (
  (zam_p0 (0 : Int) given_lo given_n v given).bind fun o1 => (Sum.elim (fun (o1_0 : Bool) =>
   some o1_0) (fun (o1_1 : Unit) =>
   gd (InI64 ((v.length : Int) + (2 : Int))) <|
   gd (0 ≤ (0 : Int) ∧ (0 : Int) ≤ ((v.length : Int) + (2 : Int)) ∧ ((given_lo : Nat) : Int) + ((v.length : Int) + (2 : Int)) ≤ (given.length : Int)) <|
   gd (0 ≤ (v.length : Int) ∧ (v.length : Int) < (((Int.toNat ((v.length : Int) + (2 : Int))) : Nat) : Int)) <|
   gd ((given_lo + Int.toNat (v.length : Int)) < given.length) <|
   gd ((given_lo + Int.toNat (v.length : Int)) < given.length) <|
   gd ((decide (((given.getD (given_lo + Int.toNat (v.length : Int)) (ET.dft .node)).kind) = (91 : Int))) = true → InI64 ((v.length : Int) + (1 : Int))) <|
   gd ((decide (((given.getD (given_lo + Int.toNat (v.length : Int)) (ET.dft .node)).kind) = (91 : Int))) = true → 0 ≤ ((v.length : Int) + (1 : Int)) ∧ ((v.length : Int) + (1 : Int)) < (((Int.toNat ((v.length : Int) + (2 : Int))) : Nat) : Int)) <|
   gd ((decide (((given.getD (given_lo + Int.toNat (v.length : Int)) (ET.dft .node)).kind) = (91 : Int))) = true → (given_lo + Int.toNat ((v.length : Int) + (1 : Int))) < given.length) <|
   gd ((decide (((given.getD (given_lo + Int.toNat (v.length : Int)) (ET.dft .node)).kind) = (91 : Int))) = true → (given_lo + Int.toNat ((v.length : Int) + (1 : Int))) < given.length) <|
   some ((decide (((given.getD (given_lo + Int.toNat (v.length : Int)) (ET.dft .node)).kind) = (91 : Int))) && (decide (((given.getD (given_lo + Int.toNat ((v.length : Int) + (1 : Int))) (ET.dft .node)).kind) = (92 : Int)))))) o1)
def zam_G : Nat → Option CQ := tblQ []
theorem zam_Gok : ∀ f C, zam_G f = some C → ValidQ Tryd.prog f C := fun f C h => by cases h
def zam_d0 := (dQS (dCons (dSl 0 (dVC (dCO (dO 0)))) (dCons (dSl 1 (dVC (dCO (dO 1)))) (dCons (dSl 5 (dVC (dCO (dI .i64)))) dNil))) (dCons (dPart 2 6) (dCons (dView .node) (dCons (dView .node) dNil))))
def zam_l0 : SubQ := fun S R kn kx kr => (Dec.d zam_d0 S).bind fun x => (zam_p0 x.1.2.2.1 x.2.1.1 x.2.1.2 x.2.2.1 x.2.2.2.1).bind fun r => (Sum.elim (fun (r_0 : Bool) => kr ⟨[(4, [], .c (.o (.val (.bool r_0))))], [], [.part 2 x.2.1.1 x.2.1.2 6, .view .node x.2.2.1, .view .node x.2.2.2.1]⟩) (fun (r_1 : Unit) => kx 0 ⟨[(0, [], .c (.o (.own 0))), (1, [], .c (.o (.own 1)))], [], [.part 2 x.2.1.1 x.2.1.2 6, .view .node x.2.2.1, .view .node x.2.2.2.1]⟩)) r
def zam_L : Nat → SubQ := tblL [(0, zam_l0)]
theorem zam_p0_eq (i : Int) (given_lo : Nat) (given_n : Nat) (v : List Eng.Node) (given : List Eng.Node) (R : Type) (kn : QS → Option R) (kx : Nat → QS → Option R) (kr : QS → Option R) :
  interpQ zam_L zam_G 3 7 49 zam_b0 ⟨[(0, [], .c (.o (.own 0))), (1, [], .c (.o (.own 1))), (5, [], .c (.o (.val (.int .i64 i))))], [], [.part 2 given_lo given_n 6, .view .node v, .view .node given]⟩ kn kx kr = (zam_p0 i given_lo given_n v given).bind fun r => (Sum.elim (fun (r_0 : Bool) => kr ⟨[(4, [], .c (.o (.val (.bool r_0))))], [], [.part 2 given_lo given_n 6, .view .node v, .view .node given]⟩) (fun (r_1 : Unit) => kx 0 ⟨[(0, [], .c (.o (.own 0))), (1, [], .c (.o (.own 1)))], [], [.part 2 given_lo given_n 6, .view .node v, .view .node given]⟩)) r := by
 refine loop_piece (step := fun x => zam_p0_step x given_lo given_n v given) (enc := fun x => ⟨[(0, [], .c (.o (.own 0))), (1, [], .c (.o (.own 1))), (5, [], .c (.o (.val (.int .i64 x))))], [], [.part 2 given_lo given_n 6, .view .node v, .view .node given]⟩) (ko := fun r => (Sum.elim (fun (r_0 : Bool) => kr ⟨[(4, [], .c (.o (.val (.bool r_0))))], [], [.part 2 given_lo given_n 6, .view .node v, .view .node given]⟩) (fun (r_1 : Unit) => kx 0 ⟨[(0, [], .c (.o (.own 0))), (1, [], .c (.o (.own 1)))], [], [.part 2 given_lo given_n 6, .view .node v, .view .node given]⟩)) r) ?_ ?_ i
 ·intro x; kernel_rfl
 ·intro x ki; simp only [zam_p0_step, -eq_self, bind_cond, bind_gd, Option.bind_assoc, obS, Sum.elim_inl, Sum.elim_inr, bind_elim]; kernel_rfl
theorem zam_sub0 : SubOK zam_L zam_G 3 7 49 0 zam_b0 := sub_ok' zam_d0 (fun x R kn kx kr => (zam_p0 x.1.2.2.1 x.2.1.1 x.2.1.2 x.2.2.1 x.2.2.2.1).bind fun r => (Sum.elim (fun (r_0 : Bool) => kr ⟨[(4, [], .c (.o (.val (.bool r_0))))], [], [.part 2 x.2.1.1 x.2.1.2 6, .view .node x.2.2.1, .view .node x.2.2.2.1]⟩) (fun (r_1 : Unit) => kx 0 ⟨[(0, [], .c (.o (.own 0))), (1, [], .c (.o (.own 1)))], [], [.part 2 x.2.1.1 x.2.1.2 6, .view .node x.2.2.1, .view .node x.2.2.2.1]⟩)) r) (by kernel_rfl) fun x R kn kx kr => zam_p0_eq x.1.2.2.1 x.2.1.1 x.2.1.2 x.2.2.1 x.2.2.2.1 R kn kx kr
theorem zam_subs : subsOK zam_L zam_G 3 7 49 zam_q := subs_of (show AllSub zam_L zam_G 3 7 49 [(0, zam_b0)] from ⟨zam_sub0, trivial⟩)
theorem zam_eq (given : (List Eng.Node)) (v : (List Eng.Node)) (given_lo : Nat) (given_n : Nat) (R : Type) (k : SV → List SB → Option R) :
  fnQ zam_L zam_G 7 49 zam_q [.tmp 4] [.c (.o (.own 0)), .c (.o (.own 1))] [.part 2 given_lo given_n 6, .view .node v, .view .node given] k = (zam_s given v given_lo given_n).bind fun r => k (.c (.o (.val (.bool r)))) [.part 2 given_lo given_n 6, .view .node v, .view .node given] := by
 simp only [zam_s, -eq_self, bind_cond, bind_gd, Option.bind_assoc, obS, Sum.elim_inl, Sum.elim_inr, bind_elim]
 kernel_rfl
def zam_da := (dCons (dVC (dCO (dO 0))) (dCons (dVC (dCO (dO 1))) dNil))
def zam_db := (dCons (dPart 2 6) (dCons (dView .node) (dCons (dView .node) dNil)))
def zam_c : CS := fun args hp R k => (Dec.d zam_da args).bind fun x => (Dec.d zam_db hp).bind fun y => (zam_s y.2.2.1 y.2.1 y.1.1 y.1.2).bind fun r => k (.c (.o (.val (.bool r)))) [.part 2 y.1.1 y.1.2 6, .view .node y.2.1, .view .node y.2.2.1]
theorem zam_val : ValidS Tryd.prog 10 zam_c :=
 val_ok zam_chk 7 zam_Gok zam_da zam_db 3 (fun x y R k => (zam_s y.2.2.1 y.2.1 y.1.1 y.1.2).bind fun r => k (.c (.o (.val (.bool r)))) [.part 2 y.1.1 y.1.2 6, .view .node y.2.1, .view .node y.2.2.1]) (by kernel_rfl)
  (fun x y R k => by simp only [Option.bind_assoc, obS]) (fun x => Nat.le_of_ble_eq_true rfl) (fun y => rfl) zam_subs fun x y => zam_eq y.2.2.1 y.2.1 y.1.1 y.1.2 _ _
def zam_w : CQ := prepQ [(0, none, some (.node, 36)), (1, none, some (.node, 36))] (liftE [false, false, false] zam_c)
theorem zam_ok : ValidQ Tryd.prog 10 zam_w := prep_quietE zam_val

/-! ### signet/signetlaw35.StatusPlaces -/
def zak_b1 : IQ :=
 (.join [] [3, 10]
 (.seq
 (.reg 85 none [
  oP 79 (.faddr 0 (.t 3)),
  oP 80 (.load none (.t 79)),
  oP 81 (.mv (.t 10)),
  oP 82 (.iaddr 6 (.t 80) (.t 81)),
  oP 83 (.faddr 1 (.t 82)),
  oP 84 (.load none (.t 83)),
  oP 85 (.bin false .eql (.t 84) (.v (.string ⟨#[120]⟩)))])
 (.cond (.t 85)
  (.reg 0 none [
   oP 86 (.faddr 0 (.t 3)),
   oP 87 (.load none (.t 86)),
   oP 88 (.mv (.t 10)),
   oP 89 (.iaddr 6 (.t 87) (.t 88)),
   oP 90 (.faddr 1 (.t 89)),
   ⟨none, .store 1 (.t 90) (.v (.string ⟨#[105, 100, 120]⟩)), none⟩])
  .skip)))
def zak_b0 : IQ :=
 (.loop [3, 10]
  (.seq
  (.seq
  (.reg 57 none [
   oP 53 (.mv (.t 10)),
   oP 54 (.faddr 0 (.t 3)),
   oP 55 (.load none (.t 54)),
   oP 56 (.len (.t 55)),
   oP 57 (.bin false .lss (.t 53) (.t 56))])
  (.cond (.t 57)
   .skip
   (.canon [] [3] (.exit 0))))
  (.seq
  (.block 1
   (.seq
   (.seq
   (.reg 66 none [
    oP 60 (.faddr 0 (.t 3)),
    oP 61 (.load none (.t 60)),
    oP 62 (.mv (.t 10)),
    oP 63 (.iaddr 6 (.t 61) (.t 62)),
    oP 64 (.faddr 0 (.t 63)),
    oP 65 (.load none (.t 64)),
    oP 66 (.bin false .eql (.t 65) (.v (.int .i64 5)))])
   (.cond (.t 66)
    (.reg 0 (some [0, 1, 2, 3, 4, 5, 6, 7, 8, 9, 10, 11, 12]) [
     oP 67 (.faddr 0 (.t 3)),
     oP 68 (.load none (.t 67)),
     oP 69 (.mv (.t 10)),
     oP 70 (.faddr 0 (.t 3)),
     oP 71 (.load none (.t 70)),
     oP 72 (.mv (.t 10)),
     oP 73 (.iaddr 6 (.t 71) (.t 72)),
     oP 74 (.faddr 2 (.t 73)),
     oP 75 (.load none (.t 74)),
     oP 76 (.bin false .add (.t 75) (.v (.string ⟨#[113]⟩))),
     oP 77 (.iaddr 6 (.t 68) (.t 69)),
     oP 78 (.faddr 2 (.t 77)),
     ⟨none, .store 1 (.t 78) (.t 76), none⟩])
    .skip))
   (.canon [] [3, 10] (.sub 1 zak_b1))))
  (.reg 10 none [
   oP 58 (.mv (.t 10)),
   oP 59 (.bin false .add (.t 58) (.v (.int .i64 1))),
   oP 10 (.mv (.t 59))]))))
def zak_q : IQ :=
 (.seq
 (.reg 2 none [
  oP 1 (.box 27 15 (.t 0)),
  oP 2 (.mv (.v (.bool false)))])
 (.seq
 (.seq
 (.reg 14 none [
  oP 12 (.faddr 0 (.t 1)),
  oP 13 (.load none (.t 12)),
  oP 14 (.call 6 [(.t 13)])])
 (.cond (.t 14)
  (.seq
  (.reg 2 none [
   oP 2 (.mv (.v (.bool true)))])
  (.canon [] [2] .ret))
  .skip))
 (.seq
 (.reg 0 none [
  oP 15 (.load (some 15) (.t 1)),
  oP 3 (.alloc 27 [.slice none 0 0, .string ⟨#[]⟩, .bool false, .string ⟨#[]⟩, .bool false, .slice none 0 0, .bool false, .string ⟨#[]⟩, .bool false, .bool false, .int .i64 0, .bool false, .int .i64 0, .bool false, .int .i64 0]),
  ⟨none, .store 15 (.t 3) (.t 15), none⟩])
 (.seq
 (.reg 0 none [
  oP 16 (.faddr 0 (.t 1)),
  oP 17 (.load none (.t 16)),
  oP 18 (.call 7 [(.t 17)]),
  oP 19 (.faddr 0 (.t 3)),
  ⟨none, .store 1 (.t 19) (.t 18), none⟩])
 (.seq
 (.reg 6 none [
  oP 21 (.load (some 15) (.t 3)),
  oP 22 (.call 8 [(.t 21)]),
  oP 20 (.mv (.t 22)),
  oP 23 (.extract (.t 20) 0),
  oP 24 (.extract (.t 20) 1),
  oP 25 (.extract (.t 20) 2),
  oP 4 (.mv (.t 23)),
  oP 5 (.mv (.t 24)),
  oP 6 (.mv (.t 25))])
 (.seq
 (.reg 9 none [
  oP 27 (.load (some 15) (.t 1)),
  oP 28 (.call 9 [(.t 27)]),
  oP 26 (.mv (.t 28)),
  oP 29 (.extract (.t 26) 0),
  oP 30 (.extract (.t 26) 1),
  oP 31 (.extract (.t 26) 2),
  oP 7 (.mv (.t 29)),
  oP 8 (.mv (.t 30)),
  oP 9 (.mv (.t 31))])
 (.seq
 (.seq
 (.reg 52 none [
  oP 32 (.mv (.t 4)),
  oP 33 (.mv (.t 7)),
  oP 34 (.bin false .neq (.t 32) (.t 33)),
  oP 35 (.mv (.t 34)),
  oG 36 (.mv (.t 5)) 35 false,
  oG 37 (.mv (.t 8)) 35 false,
  oG 38 (.bin false .neq (.t 36) (.t 37)) 35 false,
  oP 39 (.pick (.t 35) (.v (.bool true)) (.t 38)),
  oP 40 (.mv (.t 39)),
  oG 41 (.mv (.t 6)) 40 false,
  oG 42 (.mv (.t 9)) 40 false,
  oG 43 (.bin false .neq (.t 41) (.t 42)) 40 false,
  oP 44 (.pick (.t 40) (.v (.bool true)) (.t 43)),
  oP 45 (.mv (.t 44)),
  oG 46 (.faddr 0 (.t 3)) 45 false,
  oG 47 (.load none (.t 46)) 45 false,
  oG 48 (.faddr 0 (.t 1)) 45 false,
  oG 49 (.load none (.t 48)) 45 false,
  oG 50 (.call 10 [(.t 47), (.t 49)]) 45 false,
  oG 51 (.un .not (.t 50)) 45 false,
  oP 52 (.pick (.t 45) (.v (.bool true)) (.t 51))])
 (.cond (.t 52)
  (.seq
  (.reg 2 none [
   oP 2 (.mv (.v (.bool false)))])
  (.canon [] [2] .ret))
  .skip))
 (.seq
 (.seq
 (.reg 10 none [
  oP 10 (.mv (.v (.int .i64 0)))])
 (.block 0
  (.canon [] [3, 10] (.sub 0 zak_b0))))
 (.seq
 (.reg 11 none [
  oP 11 (.mv (.v (.slice none 0 0)))])
 (.seq
 (.reg 11 none [
  oP 91 (.mv (.t 11)),
  oP 92 (.faddr 0 (.t 3)),
  oP 93 (.load none (.t 92)),
  oP 94 (.append 36 6 64 [.int .i64 0, .string ⟨#[]⟩, .string ⟨#[]⟩, .bool false, .int .i64 0, .int .i64 0] (.t 91) (.t 93)),
  oP 11 (.mv (.t 94))])
 (.seq
 (.reg 6 none [
  oP 96 (.load (some 15) (.t 3)),
  oP 97 (.call 8 [(.t 96)]),
  oP 95 (.mv (.t 97)),
  oP 98 (.extract (.t 95) 0),
  oP 99 (.extract (.t 95) 1),
  oP 100 (.extract (.t 95) 2),
  oP 4 (.mv (.t 98)),
  oP 5 (.mv (.t 99)),
  oP 6 (.mv (.t 100))])
 (.seq
 (.reg 9 none [
  oP 102 (.mv (.t 11)),
  oP 103 (.build [.slice none 0 0, .string ⟨#[]⟩, .bool false, .string ⟨#[]⟩, .bool false, .slice none 0 0, .bool false, .string ⟨#[]⟩, .bool false, .bool false, .int .i64 0, .bool false, .int .i64 0, .bool false, .int .i64 0] [(0, 1, (.t 102))]),
  oP 104 (.call 9 [(.t 103)]),
  oP 101 (.mv (.t 104)),
  oP 105 (.extract (.t 101) 0),
  oP 106 (.extract (.t 101) 1),
  oP 107 (.extract (.t 101) 2),
  oP 7 (.mv (.t 105)),
  oP 8 (.mv (.t 106)),
  oP 9 (.mv (.t 107))])
 (.seq
 (.reg 2 none [
  oP 108 (.mv (.t 4)),
  oP 109 (.mv (.t 7)),
  oP 110 (.bin false .eql (.t 108) (.t 109)),
  oP 111 (.mv (.t 110)),
  oG 112 (.mv (.t 5)) 111 true,
  oG 113 (.mv (.t 8)) 111 true,
  oG 114 (.bin false .eql (.t 112) (.t 113)) 111 true,
  oP 115 (.pick (.t 111) (.t 114) (.v (.bool false))),
  oP 116 (.mv (.t 115)),
  oG 117 (.mv (.t 6)) 116 true,
  oG 118 (.mv (.t 9)) 116 true,
  oG 119 (.bin false .eql (.t 117) (.t 118)) 116 true,
  oP 120 (.pick (.t 116) (.t 119) (.v (.bool false))),
  oP 121 (.mv (.t 120)),
  oG 122 (.faddr 0 (.t 3)) 121 true,
  oG 123 (.load none (.t 122)) 121 true,
  oG 124 (.mv (.t 11)) 121 true,
  oG 125 (.call 10 [(.t 123), (.t 124)]) 121 true,
  oP 126 (.pick (.t 121) (.t 125) (.v (.bool false))),
  oP 2 (.mv (.t 126))])
 (.canon [] [2] .ret))))))))))))))
theorem zak_chk : chk Tryd.prog 3 [] = some (zak_q.erase, [.tmp 2], 127) := by kernel_rfl
def zak_p1 (n : Int) (k__Value_n : Nat) (h4 : List Eng.Node) : Option ((List Eng.Node)) :=
 gd (0 ≤ n ∧ n < ((k__Value_n : Nat) : Int)) <|
 gd (((0) + Int.toNat n) < h4.length) <|
 gd (((0) + Int.toNat n) < h4.length) <|
 bif decide (((h4.getD ((0) + Int.toNat n) (ET.dft .node)).key) = (⟨#[120]⟩ : ByteArray)) then (
  gd (0 ≤ n ∧ n < ((k__Value_n : Nat) : Int)) <|
  gd (((0) + Int.toNat n) < h4.length) <|
  gd (((0) + Int.toNat n) < h4.length) <|
  some (h4.set ((0) + Int.toNat n) (⟨(h4.getD ((0) + Int.toNat n) (ET.dft .node)).kind, (⟨#[105, 100, 120]⟩ : ByteArray), (h4.getD ((0) + Int.toNat n) (ET.dft .node)).text, (h4.getD ((0) + Int.toNat n) (ET.dft .node)).whole, (h4.getD ((0) + Int.toNat n) (ET.dft .node)).int, (h4.getD ((0) + Int.toNat n) (ET.dft .node)).kids⟩ : Eng.Node)))
 else (
  some h4)
def zak_p0_step (n : Int) (k__Value_n : Nat) (h4 : List Eng.Node) : Option ((Int × (List Eng.Node)) ⊕ ((List Eng.Node))) :=
 bif decide (n < ((k__Value_n : Nat) : Int)) then (
  gd (0 ≤ n ∧ n < ((k__Value_n : Nat) : Int)) <|
  gd (((0) + Int.toNat n) < h4.length) <|
  gd (((0) + Int.toNat n) < h4.length) <|
  bif decide (((h4.getD ((0) + Int.toNat n) (ET.dft .node)).kind) = (5 : Int)) then (
   gd (0 ≤ n ∧ n < ((k__Value_n : Nat) : Int)) <|
   gd (((0) + Int.toNat n) < h4.length) <|
   gd (((0) + Int.toNat n) < h4.length) <|
   gd (((h4.getD ((0) + Int.toNat n) (ET.dft .node)).text).size + (⟨#[113]⟩ : ByteArray).size ≤ 9223372036854775807) <|
   gd (0 ≤ n ∧ n < ((k__Value_n : Nat) : Int)) <|
   gd (((0) + Int.toNat n) < h4.length) <|
   gd (((0) + Int.toNat n) < h4.length) <|
   (zak_p1 n k__Value_n (h4.set ((0) + Int.toNat n) (⟨(h4.getD ((0) + Int.toNat n) (ET.dft .node)).kind, (h4.getD ((0) + Int.toNat n) (ET.dft .node)).key, (((h4.getD ((0) + Int.toNat n) (ET.dft .node)).text) ++ (⟨#[113]⟩ : ByteArray)), (h4.getD ((0) + Int.toNat n) (ET.dft .node)).whole, (h4.getD ((0) + Int.toNat n) (ET.dft .node)).int, (h4.getD ((0) + Int.toNat n) (ET.dft .node)).kids⟩ : Eng.Node))).bind fun o18 =>
   gd (InI64 (n + (1 : Int))) <|
   some (.inl ((n + (1 : Int)), o18)))
  else (
   (zak_p1 n k__Value_n h4).bind fun o19 =>
   gd (InI64 (n + (1 : Int))) <|
   some (.inl ((n + (1 : Int)), o19))))
 else (
  some (.inr h4))
def zak_p0 (n : Int) (k__Value_n : Nat) (h4 : List Eng.Node) : Option ((List Eng.Node)) :=
 whileO (fun x : (Int × (List Eng.Node)) => zak_p0_step x.1 k__Value_n x.2) (n, h4)
def zak_s (c : api_Claims) : Option Bool :=
 (zaw_s c.value).bind fun r13 =>
 bif r13 then (
  some true)
 else (
  (zal_s c.value).bind fun r14 =>
  gd ((0) + r14.2 ≤ r14.1.length) <|
  (zbi_s (⟨((r14.1.drop (0)).take r14.2), c.iss, c.hasIss, c.sub, c.hasSub, c.aud, c.hasAud, c.jti, c.hasJti, c.exp_, c.nbf, c.iat⟩ : api_Claims)).bind fun r15 =>
  (zas_s c).bind fun r16 =>
  bif (((!decide (r15.1 = r16.1)) || (!decide (r15.2.1 = r16.2.1))) || (!decide (r15.2.2 = r16.2.2))) then (
   some false)
  else (
   (zam_s r14.1 c.value (0) r14.2).bind fun r17 =>
   bif (!r17) then (
    some false)
   else (
    (zak_p0 (0 : Int) r14.2 r14.1).bind fun o20 =>
    gd ((0) + r14.2 ≤ o20.length) <|
    gd (((o20.drop (0)).take r14.2).length ≤ 9223372036854775807 ∧ ((o20.drop (0)).take r14.2).length * 64 ≤ 140737488355328) <|
    gd ((0) + r14.2 ≤ o20.length) <|
    (zbi_s (⟨((o20.drop (0)).take r14.2), c.iss, c.hasIss, c.sub, c.hasSub, c.aud, c.hasAud, c.jti, c.hasJti, c.exp_, c.nbf, c.iat⟩ : api_Claims)).bind fun r21 =>
    (zas_s (⟨((o20.drop (0)).take r14.2), (⟨#[]⟩ : ByteArray), false, (⟨#[]⟩ : ByteArray), false, [], false, (⟨#[]⟩ : ByteArray), false, (⟨false, (0 : Int)⟩ : api_Time), (⟨false, (0 : Int)⟩ : api_Time), (⟨false, (0 : Int)⟩ : api_Time)⟩ : api_Claims)).bind fun r22 =>
    bif (((decide (r21.1 = r22.1)) && (decide (r21.2.1 = r22.2.1))) && (decide (r21.2.2 = r22.2.2))) then (
     (zam_s o20 ((o20.drop (0)).take r14.2) (0) r14.2).bind fun r23 =>
     some r23)
    else (
     some false))))
def zak_G : Nat → Option CQ := tblQ [(6, zaw_w), (7, zal_w), (8, zbi_w), (9, zas_w), (10, zam_w)]
theorem zak_Gok : ∀ f C, zak_G f = some C → ValidQ Tryd.prog f C := tblQ_valid ⟨zaw_ok, zal_ok, zbi_ok, zas_ok, zam_ok, trivial⟩
def zak_d1 := (dQS (dCons (dSl 3 (dVC (dCO (dH 2 0)))) (dCons (dSl 10 (dVC (dCO (dI .i64)))) dNil)) (dCons (dView .node) (dCons (dView .str) (dCons (dCells 27 (dCons (dO 3) (dCons dS (dCons dB (dCons dS (dCons dB (dCons (dO 1) (dCons dB (dCons dS (dCons dB (dCons dB (dCons (dI .i64) (dCons dB (dCons (dI .i64) (dCons dB (dCons (dI .i64) dNil)))))))))))))))) (dCons (dPart0 4 6) (dCons (dRow .node 36) dNil))))))
def zak_l1 : SubQ := fun S R kn kx kr => (Dec.d zak_d1 S).bind fun x => (zak_p1 x.1.2.1 x.2.2.2.2.1 x.2.2.2.2.2.1).bind fun r => kn ⟨[(3, [], .c (.o (.hd 2 0))), (10, [], .c (.o (.val (.int .i64 x.1.2.1))))], [], [.view .node x.2.1, .view .str x.2.2.1, .cells 27 [.own 3, .val (.string x.2.2.2.1.2.1), .val (.bool x.2.2.2.1.2.2.1), .val (.string x.2.2.2.1.2.2.2.1), .val (.bool x.2.2.2.1.2.2.2.2.1), .own 1, .val (.bool x.2.2.2.1.2.2.2.2.2.2.1), .val (.string x.2.2.2.1.2.2.2.2.2.2.2.1), .val (.bool x.2.2.2.1.2.2.2.2.2.2.2.2.1), .val (.bool x.2.2.2.1.2.2.2.2.2.2.2.2.2.1), .val (.int .i64 x.2.2.2.1.2.2.2.2.2.2.2.2.2.2.1), .val (.bool x.2.2.2.1.2.2.2.2.2.2.2.2.2.2.2.1), .val (.int .i64 x.2.2.2.1.2.2.2.2.2.2.2.2.2.2.2.2.1), .val (.bool x.2.2.2.1.2.2.2.2.2.2.2.2.2.2.2.2.2.1), .val (.int .i64 x.2.2.2.1.2.2.2.2.2.2.2.2.2.2.2.2.2.2.1)], .part 4 (0) x.2.2.2.2.1 6, .row .node 36 r]⟩
def zak_d0 := (dQS (dCons (dSl 3 (dVC (dCO (dH 2 0)))) (dCons (dSl 10 (dVC (dCO (dI .i64)))) dNil)) (dCons (dView .node) (dCons (dView .str) (dCons (dCells 27 (dCons (dO 3) (dCons dS (dCons dB (dCons dS (dCons dB (dCons (dO 1) (dCons dB (dCons dS (dCons dB (dCons dB (dCons (dI .i64) (dCons dB (dCons (dI .i64) (dCons dB (dCons (dI .i64) dNil)))))))))))))))) (dCons (dPart0 4 6) (dCons (dRow .node 36) dNil))))))
def zak_l0 : SubQ := fun S R kn kx kr => (Dec.d zak_d0 S).bind fun x => (zak_p0 x.1.2.1 x.2.2.2.2.1 x.2.2.2.2.2.1).bind fun r => kx 0 ⟨[(3, [], .c (.o (.hd 2 0)))], [], [.view .node x.2.1, .view .str x.2.2.1, .cells 27 [.own 3, .val (.string x.2.2.2.1.2.1), .val (.bool x.2.2.2.1.2.2.1), .val (.string x.2.2.2.1.2.2.2.1), .val (.bool x.2.2.2.1.2.2.2.2.1), .own 1, .val (.bool x.2.2.2.1.2.2.2.2.2.2.1), .val (.string x.2.2.2.1.2.2.2.2.2.2.2.1), .val (.bool x.2.2.2.1.2.2.2.2.2.2.2.2.1), .val (.bool x.2.2.2.1.2.2.2.2.2.2.2.2.2.1), .val (.int .i64 x.2.2.2.1.2.2.2.2.2.2.2.2.2.2.1), .val (.bool x.2.2.2.1.2.2.2.2.2.2.2.2.2.2.2.1), .val (.int .i64 x.2.2.2.1.2.2.2.2.2.2.2.2.2.2.2.2.1), .val (.bool x.2.2.2.1.2.2.2.2.2.2.2.2.2.2.2.2.2.1), .val (.int .i64 x.2.2.2.1.2.2.2.2.2.2.2.2.2.2.2.2.2.2.1)], .part 4 (0) x.2.2.2.2.1 6, .row .node 36 r]⟩
def zak_L : Nat → SubQ := tblL [(1, zak_l1), (0, zak_l0)]
theorem zak_p1_eq (n : Int) (c_value : List Eng.Node) (c_aud : List ByteArray) (k__Iss : ByteArray) (k__HasIss : Bool) (k__Sub : ByteArray) (k__HasSub : Bool) (k__HasAud : Bool) (k__Jti : ByteArray) (k__HasJti : Bool) (k__Exp_Has : Bool) (k__Exp_At : Int) (k__Nbf_Has : Bool) (k__Nbf_At : Int) (k__Iat_Has : Bool) (k__Iat_At : Int) (k__Value_n : Nat) (h4 : List Eng.Node) (R : Type) (kn : QS → Option R) (kx : Nat → QS → Option R) (kr : QS → Option R) :
  interpQ zak_L zak_G 2 12 127 zak_b1 ⟨[(3, [], .c (.o (.hd 2 0))), (10, [], .c (.o (.val (.int .i64 n))))], [], [.view .node c_value, .view .str c_aud, .cells 27 [.own 3, .val (.string k__Iss), .val (.bool k__HasIss), .val (.string k__Sub), .val (.bool k__HasSub), .own 1, .val (.bool k__HasAud), .val (.string k__Jti), .val (.bool k__HasJti), .val (.bool k__Exp_Has), .val (.int .i64 k__Exp_At), .val (.bool k__Nbf_Has), .val (.int .i64 k__Nbf_At), .val (.bool k__Iat_Has), .val (.int .i64 k__Iat_At)], .part 4 (0) k__Value_n 6, .row .node 36 h4]⟩ kn kx kr = (zak_p1 n k__Value_n h4).bind fun r => kn ⟨[(3, [], .c (.o (.hd 2 0))), (10, [], .c (.o (.val (.int .i64 n))))], [], [.view .node c_value, .view .str c_aud, .cells 27 [.own 3, .val (.string k__Iss), .val (.bool k__HasIss), .val (.string k__Sub), .val (.bool k__HasSub), .own 1, .val (.bool k__HasAud), .val (.string k__Jti), .val (.bool k__HasJti), .val (.bool k__Exp_Has), .val (.int .i64 k__Exp_At), .val (.bool k__Nbf_Has), .val (.int .i64 k__Nbf_At), .val (.bool k__Iat_Has), .val (.int .i64 k__Iat_At)], .part 4 (0) k__Value_n 6, .row .node 36 r]⟩ := by
 simp only [zak_p1, -eq_self, bind_cond, bind_gd, Option.bind_assoc, obS, Sum.elim_inl, Sum.elim_inr, bind_elim]
 kernel_rfl
theorem zak_sub1 : SubOK zak_L zak_G 2 12 127 1 zak_b1 := sub_ok' zak_d1 (fun x R kn kx kr => (zak_p1 x.1.2.1 x.2.2.2.2.1 x.2.2.2.2.2.1).bind fun r => kn ⟨[(3, [], .c (.o (.hd 2 0))), (10, [], .c (.o (.val (.int .i64 x.1.2.1))))], [], [.view .node x.2.1, .view .str x.2.2.1, .cells 27 [.own 3, .val (.string x.2.2.2.1.2.1), .val (.bool x.2.2.2.1.2.2.1), .val (.string x.2.2.2.1.2.2.2.1), .val (.bool x.2.2.2.1.2.2.2.2.1), .own 1, .val (.bool x.2.2.2.1.2.2.2.2.2.2.1), .val (.string x.2.2.2.1.2.2.2.2.2.2.2.1), .val (.bool x.2.2.2.1.2.2.2.2.2.2.2.2.1), .val (.bool x.2.2.2.1.2.2.2.2.2.2.2.2.2.1), .val (.int .i64 x.2.2.2.1.2.2.2.2.2.2.2.2.2.2.1), .val (.bool x.2.2.2.1.2.2.2.2.2.2.2.2.2.2.2.1), .val (.int .i64 x.2.2.2.1.2.2.2.2.2.2.2.2.2.2.2.2.1), .val (.bool x.2.2.2.1.2.2.2.2.2.2.2.2.2.2.2.2.2.1), .val (.int .i64 x.2.2.2.1.2.2.2.2.2.2.2.2.2.2.2.2.2.2.1)], .part 4 (0) x.2.2.2.2.1 6, .row .node 36 r]⟩) (by kernel_rfl) fun x R kn kx kr => zak_p1_eq x.1.2.1 x.2.1 x.2.2.1 x.2.2.2.1.2.1 x.2.2.2.1.2.2.1 x.2.2.2.1.2.2.2.1 x.2.2.2.1.2.2.2.2.1 x.2.2.2.1.2.2.2.2.2.2.1 x.2.2.2.1.2.2.2.2.2.2.2.1 x.2.2.2.1.2.2.2.2.2.2.2.2.1 x.2.2.2.1.2.2.2.2.2.2.2.2.2.1 x.2.2.2.1.2.2.2.2.2.2.2.2.2.2.1 x.2.2.2.1.2.2.2.2.2.2.2.2.2.2.2.1 x.2.2.2.1.2.2.2.2.2.2.2.2.2.2.2.2.1 x.2.2.2.1.2.2.2.2.2.2.2.2.2.2.2.2.2.1 x.2.2.2.1.2.2.2.2.2.2.2.2.2.2.2.2.2.2.1 x.2.2.2.2.1 x.2.2.2.2.2.1 R kn kx kr
theorem zak_p0_eq (n : Int) (c_value : List Eng.Node) (c_aud : List ByteArray) (k__Iss : ByteArray) (k__HasIss : Bool) (k__Sub : ByteArray) (k__HasSub : Bool) (k__HasAud : Bool) (k__Jti : ByteArray) (k__HasJti : Bool) (k__Exp_Has : Bool) (k__Exp_At : Int) (k__Nbf_Has : Bool) (k__Nbf_At : Int) (k__Iat_Has : Bool) (k__Iat_At : Int) (k__Value_n : Nat) (h4 : List Eng.Node) (R : Type) (kn : QS → Option R) (kx : Nat → QS → Option R) (kr : QS → Option R) :
  interpQ zak_L zak_G 2 12 127 zak_b0 ⟨[(3, [], .c (.o (.hd 2 0))), (10, [], .c (.o (.val (.int .i64 n))))], [], [.view .node c_value, .view .str c_aud, .cells 27 [.own 3, .val (.string k__Iss), .val (.bool k__HasIss), .val (.string k__Sub), .val (.bool k__HasSub), .own 1, .val (.bool k__HasAud), .val (.string k__Jti), .val (.bool k__HasJti), .val (.bool k__Exp_Has), .val (.int .i64 k__Exp_At), .val (.bool k__Nbf_Has), .val (.int .i64 k__Nbf_At), .val (.bool k__Iat_Has), .val (.int .i64 k__Iat_At)], .part 4 (0) k__Value_n 6, .row .node 36 h4]⟩ kn kx kr = (zak_p0 n k__Value_n h4).bind fun r => kx 0 ⟨[(3, [], .c (.o (.hd 2 0)))], [], [.view .node c_value, .view .str c_aud, .cells 27 [.own 3, .val (.string k__Iss), .val (.bool k__HasIss), .val (.string k__Sub), .val (.bool k__HasSub), .own 1, .val (.bool k__HasAud), .val (.string k__Jti), .val (.bool k__HasJti), .val (.bool k__Exp_Has), .val (.int .i64 k__Exp_At), .val (.bool k__Nbf_Has), .val (.int .i64 k__Nbf_At), .val (.bool k__Iat_Has), .val (.int .i64 k__Iat_At)], .part 4 (0) k__Value_n 6, .row .node 36 r]⟩ := by
 refine loop_piece (step := fun x => zak_p0_step x.1 k__Value_n x.2) (enc := fun x => ⟨[(3, [], .c (.o (.hd 2 0))), (10, [], .c (.o (.val (.int .i64 x.1))))], [], [.view .node c_value, .view .str c_aud, .cells 27 [.own 3, .val (.string k__Iss), .val (.bool k__HasIss), .val (.string k__Sub), .val (.bool k__HasSub), .own 1, .val (.bool k__HasAud), .val (.string k__Jti), .val (.bool k__HasJti), .val (.bool k__Exp_Has), .val (.int .i64 k__Exp_At), .val (.bool k__Nbf_Has), .val (.int .i64 k__Nbf_At), .val (.bool k__Iat_Has), .val (.int .i64 k__Iat_At)], .part 4 (0) k__Value_n 6, .row .node 36 x.2]⟩) (ko := fun r => kx 0 ⟨[(3, [], .c (.o (.hd 2 0)))], [], [.view .node c_value, .view .str c_aud, .cells 27 [.own 3, .val (.string k__Iss), .val (.bool k__HasIss), .val (.string k__Sub), .val (.bool k__HasSub), .own 1, .val (.bool k__HasAud), .val (.string k__Jti), .val (.bool k__HasJti), .val (.bool k__Exp_Has), .val (.int .i64 k__Exp_At), .val (.bool k__Nbf_Has), .val (.int .i64 k__Nbf_At), .val (.bool k__Iat_Has), .val (.int .i64 k__Iat_At)], .part 4 (0) k__Value_n 6, .row .node 36 r]⟩) ?_ ?_ (n, h4)
 ·intro x; kernel_rfl
 ·intro x ki; simp only [zak_p0_step, -eq_self, bind_cond, bind_gd, Option.bind_assoc, obS, Sum.elim_inl, Sum.elim_inr, bind_elim]; kernel_rfl
theorem zak_sub0 : SubOK zak_L zak_G 2 12 127 0 zak_b0 := sub_ok' zak_d0 (fun x R kn kx kr => (zak_p0 x.1.2.1 x.2.2.2.2.1 x.2.2.2.2.2.1).bind fun r => kx 0 ⟨[(3, [], .c (.o (.hd 2 0)))], [], [.view .node x.2.1, .view .str x.2.2.1, .cells 27 [.own 3, .val (.string x.2.2.2.1.2.1), .val (.bool x.2.2.2.1.2.2.1), .val (.string x.2.2.2.1.2.2.2.1), .val (.bool x.2.2.2.1.2.2.2.2.1), .own 1, .val (.bool x.2.2.2.1.2.2.2.2.2.2.1), .val (.string x.2.2.2.1.2.2.2.2.2.2.2.1), .val (.bool x.2.2.2.1.2.2.2.2.2.2.2.2.1), .val (.bool x.2.2.2.1.2.2.2.2.2.2.2.2.2.1), .val (.int .i64 x.2.2.2.1.2.2.2.2.2.2.2.2.2.2.1), .val (.bool x.2.2.2.1.2.2.2.2.2.2.2.2.2.2.2.1), .val (.int .i64 x.2.2.2.1.2.2.2.2.2.2.2.2.2.2.2.2.1), .val (.bool x.2.2.2.1.2.2.2.2.2.2.2.2.2.2.2.2.2.1), .val (.int .i64 x.2.2.2.1.2.2.2.2.2.2.2.2.2.2.2.2.2.2.1)], .part 4 (0) x.2.2.2.2.1 6, .row .node 36 r]⟩) (by kernel_rfl) fun x R kn kx kr => zak_p0_eq x.1.2.1 x.2.1 x.2.2.1 x.2.2.2.1.2.1 x.2.2.2.1.2.2.1 x.2.2.2.1.2.2.2.1 x.2.2.2.1.2.2.2.2.1 x.2.2.2.1.2.2.2.2.2.2.1 x.2.2.2.1.2.2.2.2.2.2.2.1 x.2.2.2.1.2.2.2.2.2.2.2.2.1 x.2.2.2.1.2.2.2.2.2.2.2.2.2.1 x.2.2.2.1.2.2.2.2.2.2.2.2.2.2.1 x.2.2.2.1.2.2.2.2.2.2.2.2.2.2.2.1 x.2.2.2.1.2.2.2.2.2.2.2.2.2.2.2.2.1 x.2.2.2.1.2.2.2.2.2.2.2.2.2.2.2.2.2.1 x.2.2.2.1.2.2.2.2.2.2.2.2.2.2.2.2.2.2.1 x.2.2.2.2.1 x.2.2.2.2.2.1 R kn kx kr
theorem zak_subs : subsOK zak_L zak_G 2 12 127 zak_q := subs_of (show AllSub zak_L zak_G 2 12 127 [(0, zak_b0), (1, zak_b1)] from ⟨zak_sub0, zak_sub1, trivial⟩)
theorem zak_eq (c : api_Claims) (R : Type) (k : SV → List SB → Option R) :
  fnQ zak_L zak_G 12 127 zak_q [.tmp 2] [.c (.agg [.own 0, .val (.string c.iss), .val (.bool c.hasIss), .val (.string c.sub), .val (.bool c.hasSub), .own 1, .val (.bool c.hasAud), .val (.string c.jti), .val (.bool c.hasJti), .val (.bool c.exp_.has), .val (.int .i64 c.exp_.at_), .val (.bool c.nbf.has), .val (.int .i64 c.nbf.at_), .val (.bool c.iat.has), .val (.int .i64 c.iat.at_)])] [.view .node c.value, .view .str c.aud] k = (zak_s c).bind fun r => k (.c (.o (.val (.bool r)))) [.view .node c.value, .view .str c.aud] := by
 simp only [zak_s, -eq_self, bind_cond, bind_gd, Option.bind_assoc, obS, Sum.elim_inl, Sum.elim_inr, bind_elim]
 kernel_rfl
def zak_da := (dCons (dVC (dCA (dCons (dO 0) (dCons dS (dCons dB (dCons dS (dCons dB (dCons (dO 1) (dCons dB (dCons dS (dCons dB (dCons dB (dCons (dI .i64) (dCons dB (dCons (dI .i64) (dCons dB (dCons (dI .i64) dNil))))))))))))))))) dNil)
def zak_db := (dCons (dView .node) (dCons (dView .str) dNil))
def zak_c : CS := fun args hp R k => (Dec.d zak_da args).bind fun x => (Dec.d zak_db hp).bind fun y => (zak_s (⟨y.1, x.1.2.1, x.1.2.2.1, x.1.2.2.2.1, x.1.2.2.2.2.1, y.2.1, x.1.2.2.2.2.2.2.1, x.1.2.2.2.2.2.2.2.1, x.1.2.2.2.2.2.2.2.2.1, (⟨x.1.2.2.2.2.2.2.2.2.2.1, x.1.2.2.2.2.2.2.2.2.2.2.1⟩ : api_Time), (⟨x.1.2.2.2.2.2.2.2.2.2.2.2.1, x.1.2.2.2.2.2.2.2.2.2.2.2.2.1⟩ : api_Time), (⟨x.1.2.2.2.2.2.2.2.2.2.2.2.2.2.1, x.1.2.2.2.2.2.2.2.2.2.2.2.2.2.2.1⟩ : api_Time)⟩ : api_Claims)).bind fun r => k (.c (.o (.val (.bool r)))) [.view .node y.1, .view .str y.2.1]
theorem zak_val : ValidS Tryd.prog 3 zak_c :=
 val_ok zak_chk 12 zak_Gok zak_da zak_db 2 (fun x y R k => (zak_s (⟨y.1, x.1.2.1, x.1.2.2.1, x.1.2.2.2.1, x.1.2.2.2.2.1, y.2.1, x.1.2.2.2.2.2.2.1, x.1.2.2.2.2.2.2.2.1, x.1.2.2.2.2.2.2.2.2.1, (⟨x.1.2.2.2.2.2.2.2.2.2.1, x.1.2.2.2.2.2.2.2.2.2.2.1⟩ : api_Time), (⟨x.1.2.2.2.2.2.2.2.2.2.2.2.1, x.1.2.2.2.2.2.2.2.2.2.2.2.2.1⟩ : api_Time), (⟨x.1.2.2.2.2.2.2.2.2.2.2.2.2.2.1, x.1.2.2.2.2.2.2.2.2.2.2.2.2.2.2.1⟩ : api_Time)⟩ : api_Claims)).bind fun r => k (.c (.o (.val (.bool r)))) [.view .node y.1, .view .str y.2.1]) (by kernel_rfl)
  (fun x y R k => by simp only [Option.bind_assoc, obS]) (fun x => Nat.le_of_ble_eq_true rfl) (fun y => rfl) zak_subs fun x y => zak_eq (⟨y.1, x.1.2.1, x.1.2.2.1, x.1.2.2.2.1, x.1.2.2.2.2.1, y.2.1, x.1.2.2.2.2.2.2.1, x.1.2.2.2.2.2.2.2.1, x.1.2.2.2.2.2.2.2.2.1, (⟨x.1.2.2.2.2.2.2.2.2.2.1, x.1.2.2.2.2.2.2.2.2.2.2.1⟩ : api_Time), (⟨x.1.2.2.2.2.2.2.2.2.2.2.2.1, x.1.2.2.2.2.2.2.2.2.2.2.2.2.1⟩ : api_Time), (⟨x.1.2.2.2.2.2.2.2.2.2.2.2.2.2.1, x.1.2.2.2.2.2.2.2.2.2.2.2.2.2.2.1⟩ : api_Time)⟩ : api_Claims) _ _
end
end Go.Proofs.YtekkjbomadoplaaDoor
