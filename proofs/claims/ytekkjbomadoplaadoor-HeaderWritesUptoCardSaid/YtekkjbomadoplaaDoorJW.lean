/-
 Functions as the engine reads them (printed by gen.py).
-/
import Derived.Test.YtekkjbomadoplaaDoorEngO
import Derived.Test.YtekkjbomadoplaaDoorProg
import Derived.Test.YtekkjbomadoplaaDoorUtf8
import Derived.Test.YtekkjbomadoplaaDoorKeyName
import Derived.Test.YtekkjbomadoplaaDoorGC
import Derived.Test.YtekkjbomadoplaaDoorJR
import Derived.Test.YtekkjbomadoplaaDoorJS
namespace Go.Proofs.YtekkjbomadoplaaDoor
open Go.Eng
set_option linter.unusedVariables false
set_option linter.unusedSimpArgs false
set_option maxRecDepth 100000
noncomputable section
structure strings_Builder where
 addr : Bool
 buf : (List Int)

structure api_Header where
 alg : Int
 kid : ByteArray
 typ : ByteArray
 hasTyp : Bool

/-! ### (*strings.Builder).copyCheck -/
def zbp_q : IQ :=
 (.join [(2000000, some 0, .u8, 0)] []
 (.seq
 (.reg 6 none [
  oP 2 (.mv (.t 0)),
  oP 3 (.ext .nilck [(.t 2)]),
  oP 4 (.faddr 0 (.t 3)),
  oP 5 (.load none (.t 4)),
  oP 6 (.ext (.ptrEq false) [(.t 5), (.v (.pointer none))])])
 (.cond (.t 6)
  (.reg 0 none [
   oP 7 (.mv (.t 0)),
   oP 8 (.mv (.t 0)),
   oP 9 (.ext .toUns [(.t 8)]),
   oP 10 (.ext .noEsc [(.t 9)]),
   oP 11 (.ext (.fromUns 84 2) [(.t 10)]),
   oP 12 (.ext .nilck [(.t 7)]),
   oP 13 (.faddr 0 (.t 12)),
   ⟨none, .store 1 (.t 13) (.t 11), none⟩])
  (.seq
  (.reg 19 none [
   oP 14 (.mv (.t 0)),
   oP 15 (.ext .nilck [(.t 14)]),
   oP 16 (.faddr 0 (.t 15)),
   oP 17 (.load none (.t 16)),
   oP 18 (.mv (.t 0)),
   oP 19 (.ext (.ptrEq true) [(.t 17), (.t 18)])])
  (.cond (.t 19)
   .bad
   .skip)))))
theorem zbp_chk : chk Tryd.prog 86 [] = some (zbp_q.erase, [], 20) := by kernel_rfl
def zbp_s (b : strings_Builder) : Option strings_Builder :=
 bif (!b.addr) then (
  some (⟨true, b.buf⟩ : strings_Builder))
 else (
  bif (!b.addr) then (
   none)
  else (
   some b))
def zbp_G : Nat → Option CQ := tblQ []
theorem zbp_Gok : ∀ f C, zbp_G f = some C → ValidQ Tryd.prog f C := fun f C h => by cases h
def zbp_L : Nat → SubQ := tblL []
theorem zbp_subs : subsOK zbp_L zbp_G 2 2 20 zbp_q := subs_of (show AllSub zbp_L zbp_G 2 2 20 [] from trivial)
theorem zbp_eq (b : strings_Builder) (R : Type) (k : SV → List SB → Option R) :
  fnQ zbp_L zbp_G 2 20 zbp_q [] [.c (.o (.hd 0 0))] [.cells 84 [.opt b.addr 0 0, .own 1], .view .u8 b.buf] k = (zbp_s b).bind fun r => k (.tup []) [.cells 84 [.opt r.addr 0 0, .own 1], .view .u8 b.buf] := by
 simp only [zbp_s, -eq_self, bind_cond, bind_gd, Option.bind_assoc, obS, Sum.elim_inl, Sum.elim_inr, bind_elim]
 kernel_rfl
def zbp_da := (dCons (dVC (dCO (dH 0 0))) dNil)
def zbp_db := (dCons (dCells 84 (dCons (dP 0 0) (dCons (dO 1) dNil))) (dCons (dView .u8) dNil))
def zbp_c : CS := fun args hp R k => (Dec.d zbp_da args).bind fun x => (Dec.d zbp_db hp).bind fun y => (zbp_s (⟨y.1.1, y.2.1⟩ : strings_Builder)).bind fun r => k (.tup []) [.cells 84 [.opt r.addr 0 0, .own 1], .view .u8 y.2.1]
theorem zbp_val : ValidS Tryd.prog 86 zbp_c :=
 val_ok zbp_chk 2 zbp_Gok zbp_da zbp_db 2 (fun x y R k => (zbp_s (⟨y.1.1, y.2.1⟩ : strings_Builder)).bind fun r => k (.tup []) [.cells 84 [.opt r.addr 0 0, .own 1], .view .u8 y.2.1]) (by kernel_rfl)
  (fun x y R k => by simp only [Option.bind_assoc, obS]) (fun x => Nat.le_of_ble_eq_true rfl) (fun y => rfl) zbp_subs fun x y => zbp_eq (⟨y.1.1, y.2.1⟩ : strings_Builder) _ _
def zbp_w : CQ := prepQ [(0, some 0, none), (0, some 1, some (.u8, 5))] (liftQ [true, false] zbp_c)
theorem zbp_ok : ValidQ Tryd.prog 86 zbp_w := prep_loud zbp_val

/-! ### (*strings.Builder).WriteString -/
def zbo_q : IQ :=
 (.seq
 (.reg 5 none [
  oP 4 (.mv (.v (.int .i64 0))),
  oP 5 (.mv (.v (.nilIface)))])
 (.seq
 (.reg 7 none [
  oP 6 (.mv (.t 0)),
  oP 7 (.call 86 [(.t 6)])])
 (.seq
 (.reg 0 none [
  oP 8 (.mv (.t 0)),
  oP 9 (.mv (.t 0)),
  oP 10 (.ext .nilck [(.t 9)]),
  oP 11 (.faddr 1 (.t 10)),
  oP 12 (.load none (.t 11)),
  oP 13 (.mv (.t 1)),
  oP 14 (.ext (.appStr 5) [(.t 12), (.t 13)]),
  oP 15 (.ext .nilck [(.t 8)]),
  oP 16 (.faddr 1 (.t 15)),
  ⟨none, .store 1 (.t 16) (.t 14), none⟩])
 (.seq
 (.reg 5 none [
  oP 17 (.mv (.t 1)),
  oP 18 (.lenS (.t 17)),
  oP 4 (.mv (.t 18)),
  oP 5 (.mv (.v (.nilIface)))])
 (.canon [(2000000, some 0, .u8, 0)] [4, 5] .ret)))))
theorem zbo_chk : chk Tryd.prog 65 [] = some (zbo_q.erase, [.tmp 4, .tmp 5], 19) := by kernel_rfl
def zbo_s (b : strings_Builder) (s : ByteArray) : Option (strings_Builder × Int × Unit) :=
 (zbp_s b).bind fun r3 =>
 gd (b.buf.length + s.size ≤ 140737488355328) <|
 some ((⟨r3.addr, (b.buf ++ (bytesL s))⟩ : strings_Builder), (s.size : Int), ())
def zbo_G : Nat → Option CQ := tblQ [(86, zbp_w)]
theorem zbo_Gok : ∀ f C, zbo_G f = some C → ValidQ Tryd.prog f C := tblQ_valid ⟨zbp_ok, trivial⟩
def zbo_L : Nat → SubQ := tblL []
theorem zbo_subs : subsOK zbo_L zbo_G 2 6 19 zbo_q := subs_of (show AllSub zbo_L zbo_G 2 6 19 [] from trivial)
theorem zbo_eq (b : strings_Builder) (s : ByteArray) (R : Type) (k : SV → List SB → Option R) :
  fnQ zbo_L zbo_G 6 19 zbo_q [.tmp 4, .tmp 5] [.c (.o (.hd 0 0)), .c (.o (.val (.string s)))] [.cells 84 [.opt b.addr 0 0, .own 1], .row .u8 5 b.buf] k = (zbo_s b s).bind fun r => k (.tup [.o (.val (.int .i64 r.2.1)), .o (.val (.nilIface))]) [.cells 84 [.opt r.1.addr 0 0, .own 2], .dead, .row .u8 5 r.1.buf] := by
 simp only [zbo_s, -eq_self, bind_cond, bind_gd, Option.bind_assoc, obS, Sum.elim_inl, Sum.elim_inr, bind_elim]
 kernel_rfl
def zbo_da := (dCons (dVC (dCO (dH 0 0))) (dCons (dVC (dCO dS)) dNil))
def zbo_db := (dCons (dCells 84 (dCons (dP 0 0) (dCons (dO 1) dNil))) (dCons (dRow .u8 5) dNil))
def zbo_c : CS := fun args hp R k => (Dec.d zbo_da args).bind fun x => (Dec.d zbo_db hp).bind fun y => (zbo_s (⟨y.1.1, y.2.1⟩ : strings_Builder) x.2.1).bind fun r => k (.tup [.o (.val (.int .i64 r.2.1)), .o (.val (.nilIface))]) [.cells 84 [.opt r.1.addr 0 0, .own 2], .dead, .row .u8 5 r.1.buf]
theorem zbo_val : ValidS Tryd.prog 65 zbo_c :=
 val_ok zbo_chk 6 zbo_Gok zbo_da zbo_db 2 (fun x y R k => (zbo_s (⟨y.1.1, y.2.1⟩ : strings_Builder) x.2.1).bind fun r => k (.tup [.o (.val (.int .i64 r.2.1)), .o (.val (.nilIface))]) [.cells 84 [.opt r.1.addr 0 0, .own 2], .dead, .row .u8 5 r.1.buf]) (by kernel_rfl)
  (fun x y R k => by simp only [Option.bind_assoc, obS]) (fun x => Nat.le_of_ble_eq_true rfl) (fun y => rfl) zbo_subs fun x y => zbo_eq (⟨y.1.1, y.2.1⟩ : strings_Builder) x.2.1 _ _
def zbo_w : CQ := prepQ [(0, some 0, none), (0, some 1, some (.u8, 5))] (liftQ [true, true] zbo_c)
theorem zbo_ok : ValidQ Tryd.prog 65 zbo_w := prep_loud zbo_val

/-! ### (*strings.Builder).WriteByte -/
def zbn_q : IQ :=
 (.seq
 (.reg 4 none [
  oP 4 (.mv (.v (.nilIface)))])
 (.seq
 (.reg 6 none [
  oP 5 (.mv (.t 0)),
  oP 6 (.call 86 [(.t 5)])])
 (.seq
 (.reg 0 none [
  oP 7 (.mv (.t 0)),
  oP 8 (.mv (.t 0)),
  oP 9 (.ext .nilck [(.t 8)]),
  oP 10 (.faddr 1 (.t 9)),
  oP 11 (.load none (.t 10)),
  oP 12 (.mv (.t 1)),
  oP 13 (.bslice 5 1 1 [.int .u8 0] [(0, (.t 12))]),
  oP 14 (.append 5 1 1 [.int .u8 0] (.t 11) (.t 13)),
  oP 15 (.ext .nilck [(.t 7)]),
  oP 16 (.faddr 1 (.t 15)),
  ⟨none, .store 1 (.t 16) (.t 14), none⟩])
 (.seq
 (.reg 4 none [
  oP 4 (.mv (.v (.nilIface)))])
 (.canon [(2000000, some 0, .u8, 0)] [4] .ret)))))
theorem zbn_chk : chk Tryd.prog 67 [] = some (zbn_q.erase, [.tmp 4], 17) := by kernel_rfl
def zbn_s (b : strings_Builder) (c : Int) : Option (strings_Builder × Unit) :=
 (zbp_s b).bind fun r3 =>
 gd (b.buf.length + ([c] : List Int).length ≤ 9223372036854775807 ∧ (b.buf.length + ([c] : List Int).length) * 1 ≤ 140737488355328) <|
 some ((⟨r3.addr, (b.buf ++ [c])⟩ : strings_Builder), ())
def zbn_G : Nat → Option CQ := tblQ [(86, zbp_w)]
theorem zbn_Gok : ∀ f C, zbn_G f = some C → ValidQ Tryd.prog f C := tblQ_valid ⟨zbp_ok, trivial⟩
def zbn_L : Nat → SubQ := tblL []
theorem zbn_subs : subsOK zbn_L zbn_G 2 5 17 zbn_q := subs_of (show AllSub zbn_L zbn_G 2 5 17 [] from trivial)
theorem zbn_eq (b : strings_Builder) (c : Int) (R : Type) (k : SV → List SB → Option R) :
  fnQ zbn_L zbn_G 5 17 zbn_q [.tmp 4] [.c (.o (.hd 0 0)), .c (.o (.val (.int .u8 c)))] [.cells 84 [.opt b.addr 0 0, .own 1], .row .u8 5 b.buf] k = (zbn_s b c).bind fun r => k (.c (.o (.val (.nilIface)))) [.cells 84 [.opt r.1.addr 0 0, .own 2], .dead, .row .u8 5 r.1.buf] := by
 simp only [zbn_s, -eq_self, bind_cond, bind_gd, Option.bind_assoc, obS, Sum.elim_inl, Sum.elim_inr, bind_elim]
 kernel_rfl
def zbn_da := (dCons (dVC (dCO (dH 0 0))) (dCons (dVC (dCO (dI .u8))) dNil))
def zbn_db := (dCons (dCells 84 (dCons (dP 0 0) (dCons (dO 1) dNil))) (dCons (dRow .u8 5) dNil))
def zbn_c : CS := fun args hp R k => (Dec.d zbn_da args).bind fun x => (Dec.d zbn_db hp).bind fun y => (zbn_s (⟨y.1.1, y.2.1⟩ : strings_Builder) x.2.1).bind fun r => k (.c (.o (.val (.nilIface)))) [.cells 84 [.opt r.1.addr 0 0, .own 2], .dead, .row .u8 5 r.1.buf]
theorem zbn_val : ValidS Tryd.prog 67 zbn_c :=
 val_ok zbn_chk 5 zbn_Gok zbn_da zbn_db 2 (fun x y R k => (zbn_s (⟨y.1.1, y.2.1⟩ : strings_Builder) x.2.1).bind fun r => k (.c (.o (.val (.nilIface)))) [.cells 84 [.opt r.1.addr 0 0, .own 2], .dead, .row .u8 5 r.1.buf]) (by kernel_rfl)
  (fun x y R k => by simp only [Option.bind_assoc, obS]) (fun x => Nat.le_of_ble_eq_true rfl) (fun y => rfl) zbn_subs fun x y => zbn_eq (⟨y.1.1, y.2.1⟩ : strings_Builder) x.2.1 _ _
def zbn_w : CQ := prepQ [(0, some 0, none), (0, some 1, some (.u8, 5))] (liftQ [true, true] zbn_c)
theorem zbn_ok : ValidQ Tryd.prog 67 zbn_w := prep_loud zbn_val

/-! ### internal/stringslite.IndexByte -/
def zah_q : IQ :=
 (.seq
 (.reg 4 none [
  oP 4 (.mv (.v (.int .i64 0)))])
 (.seq
 (.reg 4 none [
  oP 5 (.mv (.t 0)),
  oP 6 (.mv (.t 1)),
  oP 7 (.ext .idxByte [(.t 5), (.t 6)]),
  oP 4 (.mv (.t 7))])
 (.canon [] [4] .ret)))
theorem zah_chk : chk Tryd.prog 99 [] = some (zah_q.erase, [.tmp 4], 8) := by kernel_rfl
def zah_s (s : ByteArray) (c : Int) : Option Int :=
 some (Lib.indexByte s.data.toList (Int.toNat c).toUInt8)
def zah_G : Nat → Option CQ := tblQ []
theorem zah_Gok : ∀ f C, zah_G f = some C → ValidQ Tryd.prog f C := fun f C h => by cases h
def zah_L : Nat → SubQ := tblL []
theorem zah_subs : subsOK zah_L zah_G 0 5 8 zah_q := subs_of (show AllSub zah_L zah_G 0 5 8 [] from trivial)
theorem zah_eq (s : ByteArray) (c : Int) (R : Type) (k : SV → List SB → Option R) :
  fnQ zah_L zah_G 5 8 zah_q [.tmp 4] [.c (.o (.val (.string s))), .c (.o (.val (.int .u8 c)))] [] k = (zah_s s c).bind fun r => k (.c (.o (.val (.int .i64 r)))) [] := by
 simp only [zah_s, -eq_self, bind_cond, bind_gd, Option.bind_assoc, obS, Sum.elim_inl, Sum.elim_inr, bind_elim]
 kernel_rfl
def zah_da := (dCons (dVC (dCO dS)) (dCons (dVC (dCO (dI .u8))) dNil))
def zah_db := (dNil : Dec Unit (List SB))
def zah_c : CS := fun args hp R k => (Dec.d zah_da args).bind fun x => (Dec.d zah_db hp).bind fun y => (zah_s x.1 x.2.1).bind fun r => k (.c (.o (.val (.int .i64 r)))) []
theorem zah_val : ValidS Tryd.prog 99 zah_c :=
 val_ok zah_chk 5 zah_Gok zah_da zah_db 0 (fun x y R k => (zah_s x.1 x.2.1).bind fun r => k (.c (.o (.val (.int .i64 r)))) []) (by kernel_rfl)
  (fun x y R k => by simp only [Option.bind_assoc, obS]) (fun x => Nat.le_of_ble_eq_true rfl) (fun y => rfl) zah_subs fun x y => zah_eq x.1 x.2.1 _ _
def zah_w : CQ := liftV [] zah_c
theorem zah_ok : ValidQ Tryd.prog 99 zah_w := liftV_valid zah_val

/-! ### strings.IndexByte -/
def zbr_q : IQ :=
 (.seq
 (.reg 4 none [
  oP 4 (.mv (.v (.int .i64 0)))])
 (.seq
 (.reg 4 none [
  oP 5 (.mv (.t 0)),
  oP 6 (.mv (.t 1)),
  oP 7 (.call 99 [(.t 5), (.t 6)]),
  oP 4 (.mv (.t 7))])
 (.canon [] [4] .ret)))
theorem zbr_chk : chk Tryd.prog 87 [] = some (zbr_q.erase, [.tmp 4], 8) := by kernel_rfl
def zbr_s (s : ByteArray) (c : Int) : Option Int :=
 (zah_s s c).bind fun r1 =>
 some r1
def zbr_G : Nat → Option CQ := tblQ [(99, zah_w)]
theorem zbr_Gok : ∀ f C, zbr_G f = some C → ValidQ Tryd.prog f C := tblQ_valid ⟨zah_ok, trivial⟩
def zbr_L : Nat → SubQ := tblL []
theorem zbr_subs : subsOK zbr_L zbr_G 0 5 8 zbr_q := subs_of (show AllSub zbr_L zbr_G 0 5 8 [] from trivial)
theorem zbr_eq (s : ByteArray) (c : Int) (R : Type) (k : SV → List SB → Option R) :
  fnQ zbr_L zbr_G 5 8 zbr_q [.tmp 4] [.c (.o (.val (.string s))), .c (.o (.val (.int .u8 c)))] [] k = (zbr_s s c).bind fun r => k (.c (.o (.val (.int .i64 r)))) [] := by
 simp only [zbr_s, -eq_self, bind_cond, bind_gd, Option.bind_assoc, obS, Sum.elim_inl, Sum.elim_inr, bind_elim]
 kernel_rfl
def zbr_da := (dCons (dVC (dCO dS)) (dCons (dVC (dCO (dI .u8))) dNil))
def zbr_db := (dNil : Dec Unit (List SB))
def zbr_c : CS := fun args hp R k => (Dec.d zbr_da args).bind fun x => (Dec.d zbr_db hp).bind fun y => (zbr_s x.1 x.2.1).bind fun r => k (.c (.o (.val (.int .i64 r)))) []
theorem zbr_val : ValidS Tryd.prog 87 zbr_c :=
 val_ok zbr_chk 5 zbr_Gok zbr_da zbr_db 0 (fun x y R k => (zbr_s x.1 x.2.1).bind fun r => k (.c (.o (.val (.int .i64 r)))) []) (by kernel_rfl)
  (fun x y R k => by simp only [Option.bind_assoc, obS]) (fun x => Nat.le_of_ble_eq_true rfl) (fun y => rfl) zbr_subs fun x y => zbr_eq x.1 x.2.1 _ _
def zbr_w : CQ := liftV [] zbr_c
theorem zbr_ok : ValidQ Tryd.prog 87 zbr_w := liftV_valid zbr_val

/-! ### signet/json.quote -/
def zal_b0 : IQ :=
 (.loop [0, 1, 4, 11, 12]
  (.seq
  (.reg 13 none [
   oP 13 (.bin false .lss (.t 12) (.t 11))])
  (.seq
  (.cond (.t 13)
   .skip
   (.canon [] [0, 1, 4] (.exit 0)))
  (.seq
  (.block 1
   (.seq
   (.reg 5 none [
    oP 14 (.mv (.t 12)),
    oP 5 (.mv (.t 14))])
   (.seq
   (.reg 6 none [
    oP 15 (.mv (.t 1)),
    oP 16 (.mv (.t 5)),
    oP 17 (.index (.t 15) (.t 16)),
    oP 6 (.mv (.t 17))])
   (.seq
   (.seq
   (.reg 27 none [
    oP 18 (.mv (.t 6)),
    oP 19 (.bin false .geq (.t 18) (.v (.int .u8 32))),
    oP 20 (.mv (.t 19)),
    oG 21 (.mv (.t 6)) 20 true,
    oG 22 (.bin false .neq (.t 21) (.v (.int .u8 34))) 20 true,
    oP 23 (.pick (.t 20) (.t 22) (.v (.bool false))),
    oP 24 (.mv (.t 23)),
    oG 25 (.mv (.t 6)) 24 true,
    oG 26 (.bin false .neq (.t 25) (.v (.int .u8 92))) 24 true,
    oP 27 (.pick (.t 24) (.t 26) (.v (.bool false)))])
   (.cond (.t 27)
    (.exit 1)
    .skip))
   (.seq
   (.reg 33 none [
    oP 28 (.mv (.t 0)),
    oP 29 (.mv (.t 1)),
    oP 30 (.mv (.t 4)),
    oP 31 (.mv (.t 5)),
    oP 32 (.sub none (.t 29) (some (.t 30)) (some (.t 31))),
    oP 33 (.call 65 [(.t 28), (.t 32)])])
   (.seq
   (.reg 4 none [
    oP 34 (.mv (.t 5)),
    oP 35 (.bin false .add (.t 34) (.v (.int .i64 1))),
    oP 4 (.mv (.t 35))])
   (.seq
   (.reg 7 none [
    oP 36 (.mv (.t 6)),
    oP 37 (.call 87 [(.v (.string ⟨#[8, 12, 10, 13, 9, 34, 92]⟩)), (.t 36)]),
    oP 7 (.mv (.t 37))])
   (.seq
   (.reg 39 none [
    oP 38 (.mv (.t 7)),
    oP 39 (.bin false .geq (.t 38) (.v (.int .i64 0)))])
   (.cond (.t 39)
    (.reg 46 none [
     oP 40 (.mv (.t 0)),
     oP 41 (.mv (.t 7)),
     oP 42 (.mv (.t 7)),
     oP 43 (.bin false .add (.t 42) (.v (.int .i64 1))),
     oP 44 (.sub none (.v (.string ⟨#[98, 102, 110, 114, 116, 34, 92]⟩)) (some (.t 41)) (some (.t 43))),
     oP 45 (.bin false .add (.v (.string ⟨#[92]⟩)) (.t 44)),
     oP 46 (.call 65 [(.t 40), (.t 45)])])
    (.reg 62 (some [0, 1, 2, 3, 4, 5, 6, 7, 8, 9, 10, 11, 12, 13, 14, 15]) [
     oP 47 (.mv (.t 0)),
     oP 48 (.mv (.t 6)),
     oP 49 (.bin false .shr (.t 48) (.v (.int .u64 4))),
     oP 50 (.mv (.t 6)),
     oP 51 (.bin false .shr (.t 50) (.v (.int .u64 4))),
     oP 52 (.bin false .add (.t 51) (.v (.int .u8 1))),
     oP 53 (.sub none (.v (.string ⟨#[48, 49, 50, 51, 52, 53, 54, 55, 56, 57, 97, 98, 99, 100, 101, 102]⟩)) (some (.t 49)) (some (.t 52))),
     oP 54 (.bin false .add (.v (.string ⟨#[92, 117, 48, 48]⟩)) (.t 53)),
     oP 55 (.mv (.t 6)),
     oP 56 (.bin false .and (.t 55) (.v (.int .u8 15))),
     oP 57 (.mv (.t 6)),
     oP 58 (.bin false .and (.t 57) (.v (.int .u8 15))),
     oP 59 (.bin false .add (.t 58) (.v (.int .u8 1))),
     oP 60 (.sub none (.v (.string ⟨#[48, 49, 50, 51, 52, 53, 54, 55, 56, 57, 97, 98, 99, 100, 101, 102]⟩)) (some (.t 56)) (some (.t 59))),
     oP 61 (.bin false .add (.t 54) (.t 60)),
     oP 62 (.callL 65 [(.t 47), (.t 61)])]))))))))))
  (.reg 12 none [
   oP 63 (.bin false .add (.t 12) (.v (.int .i64 1))),
   oP 12 (.mv (.t 63))])))))
def zal_q : IQ :=
 (.join [(2000000, some 0, .u8, 0)] []
 (.seq
 (.reg 9 none [
  oP 8 (.mv (.t 0)),
  oP 9 (.call 67 [(.t 8), (.v (.int .u8 34))])])
 (.seq
 (.reg 4 none [
  oP 4 (.mv (.v (.int .i64 0)))])
 (.seq
 (.seq
 (.reg 12 none [
  oP 10 (.mv (.t 1)),
  oP 11 (.lenS (.t 10)),
  oP 12 (.mv (.v (.int .i64 0)))])
 (.block 0
  (.canon [] [0, 1, 4, 11, 12] (.sub 0 zal_b0))))
 (.reg 69 none [
  oP 64 (.mv (.t 0)),
  oP 65 (.mv (.t 1)),
  oP 66 (.mv (.t 4)),
  oP 67 (.sub none (.t 65) (some (.t 66)) none),
  oP 68 (.bin false .add (.t 67) (.v (.string ⟨#[34]⟩))),
  oP 69 (.call 65 [(.t 64), (.t 68)])])))))
theorem zal_chk : chk Tryd.prog 66 [62] = some (zal_q.erase, [], 70) := by kernel_rfl
def zal_p0_step (s : ByteArray) (from_ : Int) (x11_ : Int) (x12_ : Int) (b_addr : Bool) (b_buf : List Int) : Option ((Int × Int × Bool × (List Int)) ⊕ (Int × Bool × (List Int))) :=
 bif decide (x12_ < x11_) then (
  gd (0 ≤ x12_ ∧ x12_ < s.size) <|
  bif (((decide ((32 : Int) ≤ (bAt s x12_))) && (!decide ((bAt s x12_) = (34 : Int)))) && (!decide ((bAt s x12_) = (92 : Int)))) then (
   gd (InI64 (x12_ + (1 : Int))) <|
   some (.inl (from_, (x12_ + (1 : Int)), b_addr, b_buf)))
  else (
   gd (0 ≤ from_ ∧ from_ ≤ x12_ ∧ x12_ ≤ s.size) <|
   (zbo_s (⟨b_addr, b_buf⟩ : strings_Builder) (s.extract (Int.toNat from_) (Int.toNat x12_))).bind fun r22 =>
   gd (InI64 (x12_ + (1 : Int))) <|
   (zbr_s (⟨#[8, 12, 10, 13, 9, 34, 92]⟩ : ByteArray) (bAt s x12_)).bind fun r23 =>
   bif decide ((0 : Int) ≤ r23) then (
    gd (InI64 (r23 + (1 : Int))) <|
    gd (0 ≤ r23 ∧ r23 ≤ (r23 + (1 : Int)) ∧ (r23 + (1 : Int)) ≤ (⟨#[98, 102, 110, 114, 116, 34, 92]⟩ : ByteArray).size) <|
    gd ((⟨#[92]⟩ : ByteArray).size + ((⟨#[98, 102, 110, 114, 116, 34, 92]⟩ : ByteArray).extract (Int.toNat r23) (Int.toNat (r23 + (1 : Int)))).size ≤ 9223372036854775807) <|
    (zbo_s r22.1 ((⟨#[92]⟩ : ByteArray) ++ ((⟨#[98, 102, 110, 114, 116, 34, 92]⟩ : ByteArray).extract (Int.toNat r23) (Int.toNat (r23 + (1 : Int)))))).bind fun r24 =>
    gd (InI64 (x12_ + (1 : Int))) <|
    some (.inl ((x12_ + (1 : Int)), (x12_ + (1 : Int)), r24.1.addr, r24.1.buf)))
   else (
    gd (0 ≤ (4 : Int)) <|
    gd (0 ≤ (4 : Int)) <|
    gd (0 ≤ ((bAt s x12_) / 16) ∧ ((bAt s x12_) / 16) ≤ ((((bAt s x12_) / 16) + (1 : Int)) % 256) ∧ ((((bAt s x12_) / 16) + (1 : Int)) % 256) ≤ (⟨#[48, 49, 50, 51, 52, 53, 54, 55, 56, 57, 97, 98, 99, 100, 101, 102]⟩ : ByteArray).size) <|
    gd ((⟨#[92, 117, 48, 48]⟩ : ByteArray).size + ((⟨#[48, 49, 50, 51, 52, 53, 54, 55, 56, 57, 97, 98, 99, 100, 101, 102]⟩ : ByteArray).extract (Int.toNat ((bAt s x12_) / 16)) (Int.toNat ((((bAt s x12_) / 16) + (1 : Int)) % 256))).size ≤ 9223372036854775807) <|
    gd (0 ≤ (bitAnd .u8 (bAt s x12_) (15 : Int)) ∧ (bitAnd .u8 (bAt s x12_) (15 : Int)) ≤ (((bitAnd .u8 (bAt s x12_) (15 : Int)) + (1 : Int)) % 256) ∧ (((bitAnd .u8 (bAt s x12_) (15 : Int)) + (1 : Int)) % 256) ≤ (⟨#[48, 49, 50, 51, 52, 53, 54, 55, 56, 57, 97, 98, 99, 100, 101, 102]⟩ : ByteArray).size) <|
    gd (((⟨#[92, 117, 48, 48]⟩ : ByteArray) ++ ((⟨#[48, 49, 50, 51, 52, 53, 54, 55, 56, 57, 97, 98, 99, 100, 101, 102]⟩ : ByteArray).extract (Int.toNat ((bAt s x12_) / 16)) (Int.toNat ((((bAt s x12_) / 16) + (1 : Int)) % 256)))).size + ((⟨#[48, 49, 50, 51, 52, 53, 54, 55, 56, 57, 97, 98, 99, 100, 101, 102]⟩ : ByteArray).extract (Int.toNat (bitAnd .u8 (bAt s x12_) (15 : Int))) (Int.toNat (((bitAnd .u8 (bAt s x12_) (15 : Int)) + (1 : Int)) % 256))).size ≤ 9223372036854775807) <|
    (zbo_s r22.1 (((⟨#[92, 117, 48, 48]⟩ : ByteArray) ++ ((⟨#[48, 49, 50, 51, 52, 53, 54, 55, 56, 57, 97, 98, 99, 100, 101, 102]⟩ : ByteArray).extract (Int.toNat ((bAt s x12_) / 16)) (Int.toNat ((((bAt s x12_) / 16) + (1 : Int)) % 256)))) ++ ((⟨#[48, 49, 50, 51, 52, 53, 54, 55, 56, 57, 97, 98, 99, 100, 101, 102]⟩ : ByteArray).extract (Int.toNat (bitAnd .u8 (bAt s x12_) (15 : Int))) (Int.toNat (((bitAnd .u8 (bAt s x12_) (15 : Int)) + (1 : Int)) % 256))))).bind fun r25 =>
    gd (InI64 (x12_ + (1 : Int))) <|
    some (.inl ((x12_ + (1 : Int)), (x12_ + (1 : Int)), r25.1.addr, r25.1.buf)))))
 else (
  some (.inr (from_, b_addr, b_buf)))
def zal_p0 (s : ByteArray) (from_ : Int) (x11_ : Int) (x12_ : Int) (b_addr : Bool) (b_buf : List Int) : Option (Int × Bool × (List Int)) :=
 whileO (fun x : (Int × Int × Bool × (List Int)) => zal_p0_step s x.1 x11_ x.2.1 x.2.2.1 x.2.2.2) (from_, x12_, b_addr, b_buf)
def zal_s (b : strings_Builder) (s : ByteArray) : Option strings_Builder :=
 (zbn_s b (34 : Int)).bind fun r21 =>
 (zal_p0 s (0 : Int) (s.size : Int) (0 : Int) r21.1.addr r21.1.buf).bind fun o26 =>
 gd (0 ≤ o26.1 ∧ o26.1 ≤ (s.size : Int) ∧ (s.size : Int) ≤ s.size) <|
 gd ((s.extract (Int.toNat o26.1) s.size).size + (⟨#[34]⟩ : ByteArray).size ≤ 9223372036854775807) <|
 (zbo_s (⟨o26.2.1, o26.2.2⟩ : strings_Builder) ((s.extract (Int.toNat o26.1) s.size) ++ (⟨#[34]⟩ : ByteArray))).bind fun r27 =>
 some r27.1
def zal_G : Nat → Option CQ := tblQ [(67, zbn_w), (65, zbo_w), (87, zbr_w)]
theorem zal_Gok : ∀ f C, zal_G f = some C → ValidQ Tryd.prog f C := tblQ_valid ⟨zbn_ok, zbo_ok, zbr_ok, trivial⟩
def zal_d0 := (dQS (dCons (dSl 0 (dVC (dCO (dH 0 0)))) (dCons (dSl 1 (dVC (dCO dS))) (dCons (dSl 4 (dVC (dCO (dI .i64)))) (dCons (dSl 11 (dVC (dCO (dI .i64)))) (dCons (dSl 12 (dVC (dCO (dI .i64)))) dNil))))) (dCons (dCells 84 (dCons (dP 0 0) (dCons (dO 2) dNil))) (dCons dDead (dCons (dRow .u8 5) dNil))))
def zal_l0 : SubQ := fun S R kn kx kr => (Dec.d zal_d0 S).bind fun x => (zal_p0 x.1.2.1 x.1.2.2.1 x.1.2.2.2.1 x.1.2.2.2.2.1 x.2.1.1 x.2.2.2.1).bind fun r => kx 0 ⟨[(0, [], .c (.o (.hd 0 0))), (1, [], .c (.o (.val (.string x.1.2.1)))), (4, [], .c (.o (.val (.int .i64 r.1))))], [], [.cells 84 [.opt r.2.1 0 0, .own 2], .dead, .row .u8 5 r.2.2]⟩
def zal_L : Nat → SubQ := tblL [(0, zal_l0)]
theorem zal_p0_eq (s : ByteArray) (from_ : Int) (x11_ : Int) (x12_ : Int) (b_addr : Bool) (b_buf : List Int) (R : Type) (kn : QS → Option R) (kx : Nat → QS → Option R) (kr : QS → Option R) :
  interpQ zal_L zal_G 2 13 70 zal_b0 ⟨[(0, [], .c (.o (.hd 0 0))), (1, [], .c (.o (.val (.string s)))), (4, [], .c (.o (.val (.int .i64 from_)))), (11, [], .c (.o (.val (.int .i64 x11_)))), (12, [], .c (.o (.val (.int .i64 x12_))))], [], [.cells 84 [.opt b_addr 0 0, .own 2], .dead, .row .u8 5 b_buf]⟩ kn kx kr = (zal_p0 s from_ x11_ x12_ b_addr b_buf).bind fun r => kx 0 ⟨[(0, [], .c (.o (.hd 0 0))), (1, [], .c (.o (.val (.string s)))), (4, [], .c (.o (.val (.int .i64 r.1))))], [], [.cells 84 [.opt r.2.1 0 0, .own 2], .dead, .row .u8 5 r.2.2]⟩ := by
 refine loop_piece (step := fun x => zal_p0_step s x.1 x11_ x.2.1 x.2.2.1 x.2.2.2) (enc := fun x => ⟨[(0, [], .c (.o (.hd 0 0))), (1, [], .c (.o (.val (.string s)))), (4, [], .c (.o (.val (.int .i64 x.1)))), (11, [], .c (.o (.val (.int .i64 x11_)))), (12, [], .c (.o (.val (.int .i64 x.2.1))))], [], [.cells 84 [.opt x.2.2.1 0 0, .own 2], .dead, .row .u8 5 x.2.2.2]⟩) (ko := fun r => kx 0 ⟨[(0, [], .c (.o (.hd 0 0))), (1, [], .c (.o (.val (.string s)))), (4, [], .c (.o (.val (.int .i64 r.1))))], [], [.cells 84 [.opt r.2.1 0 0, .own 2], .dead, .row .u8 5 r.2.2]⟩) ?_ ?_ (from_, x12_, b_addr, b_buf)
 ·intro x; kernel_rfl
 ·intro x ki; simp only [zal_p0_step, -eq_self, bind_cond, bind_gd, Option.bind_assoc, obS, Sum.elim_inl, Sum.elim_inr, bind_elim]; kernel_rfl
theorem zal_sub0 : SubOK zal_L zal_G 2 13 70 0 zal_b0 := sub_ok' zal_d0 (fun x R kn kx kr => (zal_p0 x.1.2.1 x.1.2.2.1 x.1.2.2.2.1 x.1.2.2.2.2.1 x.2.1.1 x.2.2.2.1).bind fun r => kx 0 ⟨[(0, [], .c (.o (.hd 0 0))), (1, [], .c (.o (.val (.string x.1.2.1)))), (4, [], .c (.o (.val (.int .i64 r.1))))], [], [.cells 84 [.opt r.2.1 0 0, .own 2], .dead, .row .u8 5 r.2.2]⟩) (by kernel_rfl) fun x R kn kx kr => zal_p0_eq x.1.2.1 x.1.2.2.1 x.1.2.2.2.1 x.1.2.2.2.2.1 x.2.1.1 x.2.2.2.1 R kn kx kr
theorem zal_subs : subsOK zal_L zal_G 2 13 70 zal_q := subs_of (show AllSub zal_L zal_G 2 13 70 [(0, zal_b0)] from ⟨zal_sub0, trivial⟩)
theorem zal_eq (b : strings_Builder) (s : ByteArray) (R : Type) (k : SV → List SB → Option R) :
  fnQ zal_L zal_G 13 70 zal_q [] [.c (.o (.hd 0 0)), .c (.o (.val (.string s)))] [.cells 84 [.opt b.addr 0 0, .own 1], .row .u8 5 b.buf] k = (zal_s b s).bind fun r => k (.tup []) [.cells 84 [.opt r.addr 0 0, .own 2], .dead, .row .u8 5 r.buf] := by
 simp only [zal_s, -eq_self, bind_cond, bind_gd, Option.bind_assoc, obS, Sum.elim_inl, Sum.elim_inr, bind_elim]
 kernel_rfl
def zal_da := (dCons (dVC (dCO (dH 0 0))) (dCons (dVC (dCO dS)) dNil))
def zal_db := (dCons (dCells 84 (dCons (dP 0 0) (dCons (dO 1) dNil))) (dCons (dRow .u8 5) dNil))
def zal_c : CS := fun args hp R k => (Dec.d zal_da args).bind fun x => (Dec.d zal_db hp).bind fun y => (zal_s (⟨y.1.1, y.2.1⟩ : strings_Builder) x.2.1).bind fun r => k (.tup []) [.cells 84 [.opt r.addr 0 0, .own 2], .dead, .row .u8 5 r.buf]
theorem zal_val : ValidS Tryd.prog 66 zal_c :=
 val_ok zal_chk 13 zal_Gok zal_da zal_db 2 (fun x y R k => (zal_s (⟨y.1.1, y.2.1⟩ : strings_Builder) x.2.1).bind fun r => k (.tup []) [.cells 84 [.opt r.addr 0 0, .own 2], .dead, .row .u8 5 r.buf]) (by kernel_rfl)
  (fun x y R k => by simp only [Option.bind_assoc, obS]) (fun x => Nat.le_of_ble_eq_true rfl) (fun y => rfl) zal_subs fun x y => zal_eq (⟨y.1.1, y.2.1⟩ : strings_Builder) x.2.1 _ _
def zal_w : CQ := prepQ [(0, some 0, none), (0, some 1, some (.u8, 5))] (liftQ [true, true] zal_c)
theorem zal_ok : ValidQ Tryd.prog 66 zal_w := prep_loud zal_val

/-! ### a group that calls itself: signet/json.spelled -/
def zam_da := (dCons (dVC (dCO (dH 0 0))) (dCons (dVC (dCO (dO 1))) (dCons (dVC (dCO (dI .i64))) dNil)))
def zam_db := (dCons (dCells 84 (dCons (dP 0 0) (dCons (dO 2) dNil))) (dCons (dView .node) (dCons (dRow .u8 5) dNil)))
def zam_cs (self : strings_Builder → (List Eng.Node) → Int → Option (strings_Builder × Int)) : CS := fun args hp R k => (Dec.d zam_da args).bind fun x => (Dec.d zam_db hp).bind fun y => (self (⟨y.1.1, y.2.2.1⟩ : strings_Builder) y.2.1 x.2.2.1).bind fun r => k (.c (.o (.val (.int .i64 r.2)))) [.cells 84 [.opt r.1.addr 0 0, .own 3], .view .node y.2.1, .dead, .row .u8 5 r.1.buf]
def zam_ws (self : strings_Builder → (List Eng.Node) → Int → Option (strings_Builder × Int)) : CQ := prepQ [(0, some 0, none), (0, some 1, some (.u8, 5)), (1, none, some (.node, 36))] (liftQ [true, false, true] (zam_cs self))

/-! ### signet/json.spelled -/
def zam_b2 : IQ :=
 (.join [] [0, 1, 2, 7, 8, 26, 27]
 (.seq
 (.seq
 (.reg 36 none [
  oP 34 (.faddr 0 (.t 7)),
  oP 35 (.load none (.t 34)),
  oP 36 (.bin false .eql (.t 35) (.v (.int .i64 7)))])
 (.cond (.t 36)
  (.seq
  (.reg 43 none [
   oP 37 (.mv (.t 0)),
   oP 38 (.mv (.t 1)),
   oP 39 (.mv (.t 2)),
   oP 40 (.iaddr 6 (.t 38) (.t 39)),
   oP 41 (.faddr 1 (.t 40)),
   oP 42 (.load none (.t 41)),
   oP 43 (.call 66 [(.t 37), (.t 42)])])
  (.reg 45 none [
   oP 44 (.mv (.t 0)),
   oP 45 (.call 67 [(.t 44), (.v (.int .u8 58))])]))
  .skip))
 (.reg 2 none [
  oP 46 (.mv (.t 0)),
  oP 47 (.mv (.t 1)),
  oP 48 (.mv (.t 2)),
  oP 49 (.call 46 [(.t 46), (.t 47), (.t 48)]),
  oP 2 (.mv (.t 49))])))
def zam_b1 : IQ :=
 (.loop [0, 1, 2, 7, 8, 26, 27]
  (.seq
  (.reg 28 none [
   oP 28 (.bin false .lss (.t 27) (.t 26))])
  (.seq
  (.cond (.t 28)
   .skip
   (.canon [] [0, 2, 8] (.exit 1)))
  (.seq
  (.block 2
   (.seq
   (.reg 9 none [
    oP 29 (.mv (.t 27)),
    oP 9 (.mv (.t 29))])
   (.seq
   (.seq
   (.reg 31 none [
    oP 30 (.mv (.t 9)),
    oP 31 (.bin false .gtr (.t 30) (.v (.int .i64 0)))])
   (.cond (.t 31)
    (.reg 33 none [
     oP 32 (.mv (.t 0)),
     oP 33 (.call 67 [(.t 32), (.v (.int .u8 44))])])
    .skip))
   (.canon [] [0, 1, 2, 7, 8, 26, 27] (.sub 2 zam_b2)))))
  (.reg 27 none [
   oP 50 (.bin false .add (.t 27) (.v (.int .i64 1))),
   oP 27 (.mv (.t 50))])))))
def zam_b0 : IQ :=
 (.join [] [0, 2]
 (.seq
 (.reg 24 none [
  oP 21 (.mv (.t 0)),
  oP 22 (.mv (.t 8)),
  oP 23 (.index (.t 22) (.v (.int .i64 0))),
  oP 24 (.call 67 [(.t 21), (.t 23)])])
 (.seq
 (.seq
 (.reg 27 none [
  oP 25 (.faddr 5 (.t 7)),
  oP 26 (.load none (.t 25)),
  oP 27 (.mv (.v (.int .i64 0)))])
 (.block 1
  (.canon [] [0, 1, 2, 7, 8, 26, 27] (.sub 1 zam_b1))))
 (.reg 54 none [
  oP 51 (.mv (.t 0)),
  oP 52 (.mv (.t 8)),
  oP 53 (.index (.t 52) (.v (.int .i64 1))),
  oP 54 (.call 67 [(.t 51), (.t 53)])]))))
def zam_q : IQ :=
 (.seq
 (.reg 6 none [
  oP 6 (.mv (.v (.int .i64 0)))])
 (.seq
 (.reg 0 none [
  oP 10 (.mv (.t 1)),
  oP 11 (.mv (.t 2)),
  oP 12 (.iaddr 6 (.t 10) (.t 11)),
  oP 13 (.load (some 6) (.t 12)),
  oP 7 (.alloc 36 [.int .i64 0, .string ⟨#[]⟩, .string ⟨#[]⟩, .bool false, .int .i64 0, .int .i64 0]),
  ⟨none, .store 6 (.t 7) (.t 13), none⟩])
 (.seq
 (.reg 2 none [
  oP 14 (.mv (.t 2)),
  oP 15 (.bin false .add (.t 14) (.v (.int .i64 1))),
  oP 2 (.mv (.t 15))])
 (.seq
 (.seq
 (.reg 17 none [
  oP 16 (.faddr 0 (.t 7)),
  oP 17 (.load none (.t 16))])
 (.block 0
  (.seq
  (.reg 55 none [
   oP 56 (.bin false .eql (.t 17) (.v (.int .i64 1))),
   oP 55 (.mv (.t 56))])
  (.cond (.t 55)
   (.reg 58 none [
    oP 57 (.mv (.t 0)),
    oP 58 (.call 65 [(.t 57), (.v (.string ⟨#[110, 117, 108, 108]⟩))])])
   (.seq
   (.reg 59 none [
    oP 60 (.bin false .eql (.t 17) (.v (.int .i64 2))),
    oP 59 (.mv (.t 60))])
   (.cond (.t 59)
    (.reg 62 none [
     oP 61 (.mv (.t 0)),
     oP 62 (.call 65 [(.t 61), (.v (.string ⟨#[102, 97, 108, 115, 101]⟩))])])
    (.seq
    (.reg 63 none [
     oP 64 (.bin false .eql (.t 17) (.v (.int .i64 3))),
     oP 63 (.mv (.t 64))])
    (.cond (.t 63)
     (.reg 66 none [
      oP 65 (.mv (.t 0)),
      oP 66 (.call 65 [(.t 65), (.v (.string ⟨#[116, 114, 117, 101]⟩))])])
     (.seq
     (.reg 67 none [
      oP 68 (.bin false .eql (.t 17) (.v (.int .i64 4))),
      oP 67 (.mv (.t 68))])
     (.cond (.t 67)
      (.reg 72 none [
       oP 69 (.mv (.t 0)),
       oP 70 (.faddr 2 (.t 7)),
       oP 71 (.load none (.t 70)),
       oP 72 (.call 65 [(.t 69), (.t 71)])])
      (.seq
      (.reg 73 none [
       oP 74 (.bin false .eql (.t 17) (.v (.int .i64 5))),
       oP 73 (.mv (.t 74))])
      (.cond (.t 73)
       (.reg 78 none [
        oP 75 (.mv (.t 0)),
        oP 76 (.faddr 2 (.t 7)),
        oP 77 (.load none (.t 76)),
        oP 78 (.call 66 [(.t 75), (.t 77)])])
       (.seq
       (.reg 8 none [
        oP 8 (.mv (.v (.string ⟨#[91, 93]⟩)))])
       (.seq
       (.seq
       (.reg 20 none [
        oP 18 (.faddr 0 (.t 7)),
        oP 19 (.load none (.t 18)),
        oP 20 (.bin false .eql (.t 19) (.v (.int .i64 7)))])
       (.cond (.t 20)
        (.reg 8 none [
         oP 8 (.mv (.v (.string ⟨#[123, 125]⟩)))])
        .skip))
       (.canon [] [0, 1, 2, 7, 8] (.sub 0 zam_b0))))))))))))))))
 (.seq
 (.reg 6 none [
  oP 79 (.mv (.t 2)),
  oP 6 (.mv (.t 79))])
 (.canon [(2000000, some 0, .u8, 0)] [6] .ret))))))
theorem zam_chk : chk Tryd.prog 46 [] = some (zam_q.erase, [.tmp 6], 80) := by kernel_rfl
def zam_p2 (self : strings_Builder → (List Eng.Node) → Int → Option (strings_Builder × Int)) (at_ : Int) (b_addr : Bool) (v : List Eng.Node) (n_Kind : Int) (b_buf : List Int) : Option (Int × Bool × (List Int)) :=
 bif decide (n_Kind = (7 : Int)) then (
  gd (0 ≤ at_ ∧ at_ < v.length) <|
  gd ((Int.toNat at_) < v.length) <|
  gd ((Int.toNat at_) < v.length) <|
  (zal_s (⟨b_addr, b_buf⟩ : strings_Builder) ((v.getD (Int.toNat at_) (ET.dft .node)).key)).bind fun r57 =>
  (zbn_s r57 (58 : Int)).bind fun r58 =>
  (self r58.1 v at_).bind fun r59 =>
  some (r59.2, r59.1.addr, r59.1.buf))
 else (
  (self (⟨b_addr, b_buf⟩ : strings_Builder) v at_).bind fun r60 =>
  some (r60.2, r60.1.addr, r60.1.buf))
def zam_p1_step (self : strings_Builder → (List Eng.Node) → Int → Option (strings_Builder × Int)) (at_ : Int) (x26_ : Int) (x27_ : Int) (b_addr : Bool) (v : List Eng.Node) (n_Kind : Int) (b_buf : List Int) : Option ((Int × Int × Bool × (List Int)) ⊕ (Int × Bool × (List Int))) :=
 bif decide (x27_ < x26_) then (
  bif decide ((0 : Int) < x27_) then (
   (zbn_s (⟨b_addr, b_buf⟩ : strings_Builder) (44 : Int)).bind fun r56 =>
   (zam_p2 self at_ r56.1.addr v n_Kind r56.1.buf).bind fun o61 =>
   gd (InI64 (x27_ + (1 : Int))) <|
   some (.inl (o61.1, (x27_ + (1 : Int)), o61.2.1, o61.2.2)))
  else (
   (zam_p2 self at_ b_addr v n_Kind b_buf).bind fun o62 =>
   gd (InI64 (x27_ + (1 : Int))) <|
   some (.inl (o62.1, (x27_ + (1 : Int)), o62.2.1, o62.2.2))))
 else (
  some (.inr (at_, b_addr, b_buf)))
def zam_p1 (self : strings_Builder → (List Eng.Node) → Int → Option (strings_Builder × Int)) (at_ : Int) (x26_ : Int) (x27_ : Int) (b_addr : Bool) (v : List Eng.Node) (n_Kind : Int) (b_buf : List Int) : Option (Int × Bool × (List Int)) :=
 whileO (fun x : (Int × Int × Bool × (List Int)) => zam_p1_step self x.1 x26_ x.2.1 x.2.2.1 v n_Kind x.2.2.2) (at_, x27_, b_addr, b_buf)
def zam_p0 (self : strings_Builder → (List Eng.Node) → Int → Option (strings_Builder × Int)) (at_ : Int) (signs : ByteArray) (b_addr : Bool) (v : List Eng.Node) (b_buf : List Int) (n_Kind : Int) (n_Kids : Int) : Option (Int × Bool × (List Int)) :=
 gd (0 ≤ (0 : Int) ∧ (0 : Int) < signs.size) <|
 (zbn_s (⟨b_addr, b_buf⟩ : strings_Builder) (bAt signs (0 : Int))).bind fun r55 =>
 (zam_p1 self at_ n_Kids (0 : Int) r55.1.addr v n_Kind r55.1.buf).bind fun o63 =>
 gd (0 ≤ (1 : Int) ∧ (1 : Int) < signs.size) <|
 (zbn_s (⟨o63.2.1, o63.2.2⟩ : strings_Builder) (bAt signs (1 : Int))).bind fun r64 =>
 some (o63.1, r64.1.addr, r64.1.buf)
def zam_t (self : strings_Builder → (List Eng.Node) → Int → Option (strings_Builder × Int)) (b : strings_Builder) (v : (List Eng.Node)) (at_ : Int) : Option (strings_Builder × Int) :=
 gd (0 ≤ at_ ∧ at_ < v.length) <|
 gd ((Int.toNat at_) < v.length) <|
 gd (InI64 (at_ + (1 : Int))) <|
 bif decide (((v.getD (Int.toNat at_) (ET.dft .node)).kind) = (1 : Int)) then (
  (zbo_s b (⟨#[110, 117, 108, 108]⟩ : ByteArray)).bind fun r50 =>
  some (r50.1, (at_ + (1 : Int))))
 else (
  bif decide (((v.getD (Int.toNat at_) (ET.dft .node)).kind) = (2 : Int)) then (
   (zbo_s b (⟨#[102, 97, 108, 115, 101]⟩ : ByteArray)).bind fun r51 =>
   some (r51.1, (at_ + (1 : Int))))
  else (
   bif decide (((v.getD (Int.toNat at_) (ET.dft .node)).kind) = (3 : Int)) then (
    (zbo_s b (⟨#[116, 114, 117, 101]⟩ : ByteArray)).bind fun r52 =>
    some (r52.1, (at_ + (1 : Int))))
   else (
    bif decide (((v.getD (Int.toNat at_) (ET.dft .node)).kind) = (4 : Int)) then (
     (zbo_s b ((v.getD (Int.toNat at_) (ET.dft .node)).text)).bind fun r53 =>
     some (r53.1, (at_ + (1 : Int))))
    else (
     bif decide (((v.getD (Int.toNat at_) (ET.dft .node)).kind) = (5 : Int)) then (
      (zal_s b ((v.getD (Int.toNat at_) (ET.dft .node)).text)).bind fun r54 =>
      some (r54, (at_ + (1 : Int))))
     else (
      bif decide (((v.getD (Int.toNat at_) (ET.dft .node)).kind) = (7 : Int)) then (
       (zam_p0 self (at_ + (1 : Int)) (⟨#[123, 125]⟩ : ByteArray) b.addr v b.buf ((v.getD (Int.toNat at_) (ET.dft .node)).kind) ((v.getD (Int.toNat at_) (ET.dft .node)).kids)).bind fun o65 =>
       some ((⟨o65.2.1, o65.2.2⟩ : strings_Builder), o65.1))
      else (
       (zam_p0 self (at_ + (1 : Int)) (⟨#[91, 93]⟩ : ByteArray) b.addr v b.buf ((v.getD (Int.toNat at_) (ET.dft .node)).kind) ((v.getD (Int.toNat at_) (ET.dft .node)).kids)).bind fun o66 =>
       some ((⟨o66.2.1, o66.2.2⟩ : strings_Builder), o66.1)))))))
def zam_G (self : strings_Builder → (List Eng.Node) → Int → Option (strings_Builder × Int)) : Nat → Option CQ := tblQ [(65, zbo_w), (66, zal_w), (67, zbn_w), (46, zam_ws self)]
theorem zam_Gok (self : strings_Builder → (List Eng.Node) → Int → Option (strings_Builder × Int)) (hself : ValidQ Tryd.prog 46 (zam_ws self)) : ∀ f C, (zam_G self) f = some C → ValidQ Tryd.prog f C := tblQ_valid ⟨zbo_ok, zal_ok, zbn_ok, hself, trivial⟩
def zam_d2 := (dQS (dCons (dSl 0 (dVC (dCO (dH 0 0)))) (dCons (dSl 1 (dVC (dCO (dO 1)))) (dCons (dSl 2 (dVC (dCO (dI .i64)))) (dCons (dSl 7 (dVC (dCO (dH 3 0)))) (dCons (dSl 8 (dVC (dCO dS))) (dCons (dSl 26 (dVC (dCO (dI .i64)))) (dCons (dSl 27 (dVC (dCO (dI .i64)))) dNil))))))) (dCons (dCells 84 (dCons (dP 0 0) (dCons (dO 4) dNil))) (dCons (dView .node) (dCons dDead (dCons (dCells 36 (dCons (dI .i64) (dCons dS (dCons dS (dCons dB (dCons (dI .i64) (dCons (dI .i64) dNil))))))) (dCons (dRow .u8 5) dNil))))))
def zam_l2 (self : strings_Builder → (List Eng.Node) → Int → Option (strings_Builder × Int)) : SubQ := fun S R kn kx kr => (Dec.d zam_d2 S).bind fun x => (zam_p2 self x.1.2.2.1 x.2.1.1 x.2.2.1 x.2.2.2.2.1.1 x.2.2.2.2.2.1).bind fun r => kn ⟨[(0, [], .c (.o (.hd 0 0))), (1, [], .c (.o (.own 1))), (2, [], .c (.o (.val (.int .i64 r.1)))), (7, [], .c (.o (.hd 3 0))), (8, [], .c (.o (.val (.string x.1.2.2.2.2.1)))), (26, [], .c (.o (.val (.int .i64 x.1.2.2.2.2.2.1)))), (27, [], .c (.o (.val (.int .i64 x.1.2.2.2.2.2.2.1))))], [], [.cells 84 [.opt r.2.1 0 0, .own 4], .view .node x.2.2.1, .dead, .cells 36 [.val (.int .i64 x.2.2.2.2.1.1), .val (.string x.2.2.2.2.1.2.1), .val (.string x.2.2.2.2.1.2.2.1), .val (.bool x.2.2.2.2.1.2.2.2.1), .val (.int .i64 x.2.2.2.2.1.2.2.2.2.1), .val (.int .i64 x.2.2.2.2.1.2.2.2.2.2.1)], .row .u8 5 r.2.2]⟩
def zam_d1 := (dQS (dCons (dSl 0 (dVC (dCO (dH 0 0)))) (dCons (dSl 1 (dVC (dCO (dO 1)))) (dCons (dSl 2 (dVC (dCO (dI .i64)))) (dCons (dSl 7 (dVC (dCO (dH 3 0)))) (dCons (dSl 8 (dVC (dCO dS))) (dCons (dSl 26 (dVC (dCO (dI .i64)))) (dCons (dSl 27 (dVC (dCO (dI .i64)))) dNil))))))) (dCons (dCells 84 (dCons (dP 0 0) (dCons (dO 4) dNil))) (dCons (dView .node) (dCons dDead (dCons (dCells 36 (dCons (dI .i64) (dCons dS (dCons dS (dCons dB (dCons (dI .i64) (dCons (dI .i64) dNil))))))) (dCons (dRow .u8 5) dNil))))))
def zam_l1 (self : strings_Builder → (List Eng.Node) → Int → Option (strings_Builder × Int)) : SubQ := fun S R kn kx kr => (Dec.d zam_d1 S).bind fun x => (zam_p1 self x.1.2.2.1 x.1.2.2.2.2.2.1 x.1.2.2.2.2.2.2.1 x.2.1.1 x.2.2.1 x.2.2.2.2.1.1 x.2.2.2.2.2.1).bind fun r => kx 1 ⟨[(0, [], .c (.o (.hd 0 0))), (2, [], .c (.o (.val (.int .i64 r.1)))), (8, [], .c (.o (.val (.string x.1.2.2.2.2.1))))], [], [.cells 84 [.opt r.2.1 0 0, .own 3], .view .node x.2.2.1, .dead, .row .u8 5 r.2.2]⟩
def zam_d0 := (dQS (dCons (dSl 0 (dVC (dCO (dH 0 0)))) (dCons (dSl 1 (dVC (dCO (dO 1)))) (dCons (dSl 2 (dVC (dCO (dI .i64)))) (dCons (dSl 7 (dVC (dCO (dH 3 0)))) (dCons (dSl 8 (dVC (dCO dS))) dNil))))) (dCons (dCells 84 (dCons (dP 0 0) (dCons (dO 2) dNil))) (dCons (dView .node) (dCons (dRow .u8 5) (dCons (dCells 36 (dCons (dI .i64) (dCons dS (dCons dS (dCons dB (dCons (dI .i64) (dCons (dI .i64) dNil))))))) dNil)))))
def zam_l0 (self : strings_Builder → (List Eng.Node) → Int → Option (strings_Builder × Int)) : SubQ := fun S R kn kx kr => (Dec.d zam_d0 S).bind fun x => (zam_p0 self x.1.2.2.1 x.1.2.2.2.2.1 x.2.1.1 x.2.2.1 x.2.2.2.1 x.2.2.2.2.1.1 x.2.2.2.2.1.2.2.2.2.2.1).bind fun r => kn ⟨[(0, [], .c (.o (.hd 0 0))), (2, [], .c (.o (.val (.int .i64 r.1))))], [], [.cells 84 [.opt r.2.1 0 0, .own 3], .view .node x.2.2.1, .dead, .row .u8 5 r.2.2]⟩
def zam_L (self : strings_Builder → (List Eng.Node) → Int → Option (strings_Builder × Int)) : Nat → SubQ := tblL [(2, zam_l2 self), (1, zam_l1 self), (0, zam_l0 self)]
theorem zam_p2_eq (self : strings_Builder → (List Eng.Node) → Int → Option (strings_Builder × Int)) (at_ : Int) (signs : ByteArray) (x26_ : Int) (x27_ : Int) (b_addr : Bool) (v : List Eng.Node) (n_Kind : Int) (n_Key : ByteArray) (n_Text : ByteArray) (n_Whole : Bool) (n_Int : Int) (n_Kids : Int) (b_buf : List Int) (R : Type) (kn : QS → Option R) (kx : Nat → QS → Option R) (kr : QS → Option R) :
  interpQ (zam_L self) (zam_G self) 3 28 80 zam_b2 ⟨[(0, [], .c (.o (.hd 0 0))), (1, [], .c (.o (.own 1))), (2, [], .c (.o (.val (.int .i64 at_)))), (7, [], .c (.o (.hd 3 0))), (8, [], .c (.o (.val (.string signs)))), (26, [], .c (.o (.val (.int .i64 x26_)))), (27, [], .c (.o (.val (.int .i64 x27_))))], [], [.cells 84 [.opt b_addr 0 0, .own 4], .view .node v, .dead, .cells 36 [.val (.int .i64 n_Kind), .val (.string n_Key), .val (.string n_Text), .val (.bool n_Whole), .val (.int .i64 n_Int), .val (.int .i64 n_Kids)], .row .u8 5 b_buf]⟩ kn kx kr = (zam_p2 self at_ b_addr v n_Kind b_buf).bind fun r => kn ⟨[(0, [], .c (.o (.hd 0 0))), (1, [], .c (.o (.own 1))), (2, [], .c (.o (.val (.int .i64 r.1)))), (7, [], .c (.o (.hd 3 0))), (8, [], .c (.o (.val (.string signs)))), (26, [], .c (.o (.val (.int .i64 x26_)))), (27, [], .c (.o (.val (.int .i64 x27_))))], [], [.cells 84 [.opt r.2.1 0 0, .own 4], .view .node v, .dead, .cells 36 [.val (.int .i64 n_Kind), .val (.string n_Key), .val (.string n_Text), .val (.bool n_Whole), .val (.int .i64 n_Int), .val (.int .i64 n_Kids)], .row .u8 5 r.2.2]⟩ := by
 simp only [zam_p2, -eq_self, bind_cond, bind_gd, Option.bind_assoc, obS, Sum.elim_inl, Sum.elim_inr, bind_elim]
 kernel_rfl
theorem zam_sub2 (self : strings_Builder → (List Eng.Node) → Int → Option (strings_Builder × Int)) : SubOK (zam_L self) (zam_G self) 3 28 80 2 zam_b2 := sub_ok' zam_d2 (fun x R kn kx kr => (zam_p2 self x.1.2.2.1 x.2.1.1 x.2.2.1 x.2.2.2.2.1.1 x.2.2.2.2.2.1).bind fun r => kn ⟨[(0, [], .c (.o (.hd 0 0))), (1, [], .c (.o (.own 1))), (2, [], .c (.o (.val (.int .i64 r.1)))), (7, [], .c (.o (.hd 3 0))), (8, [], .c (.o (.val (.string x.1.2.2.2.2.1)))), (26, [], .c (.o (.val (.int .i64 x.1.2.2.2.2.2.1)))), (27, [], .c (.o (.val (.int .i64 x.1.2.2.2.2.2.2.1))))], [], [.cells 84 [.opt r.2.1 0 0, .own 4], .view .node x.2.2.1, .dead, .cells 36 [.val (.int .i64 x.2.2.2.2.1.1), .val (.string x.2.2.2.2.1.2.1), .val (.string x.2.2.2.2.1.2.2.1), .val (.bool x.2.2.2.2.1.2.2.2.1), .val (.int .i64 x.2.2.2.2.1.2.2.2.2.1), .val (.int .i64 x.2.2.2.2.1.2.2.2.2.2.1)], .row .u8 5 r.2.2]⟩) (by kernel_rfl) fun x R kn kx kr => zam_p2_eq self x.1.2.2.1 x.1.2.2.2.2.1 x.1.2.2.2.2.2.1 x.1.2.2.2.2.2.2.1 x.2.1.1 x.2.2.1 x.2.2.2.2.1.1 x.2.2.2.2.1.2.1 x.2.2.2.2.1.2.2.1 x.2.2.2.2.1.2.2.2.1 x.2.2.2.2.1.2.2.2.2.1 x.2.2.2.2.1.2.2.2.2.2.1 x.2.2.2.2.2.1 R kn kx kr
theorem zam_p1_eq (self : strings_Builder → (List Eng.Node) → Int → Option (strings_Builder × Int)) (at_ : Int) (signs : ByteArray) (x26_ : Int) (x27_ : Int) (b_addr : Bool) (v : List Eng.Node) (n_Kind : Int) (n_Key : ByteArray) (n_Text : ByteArray) (n_Whole : Bool) (n_Int : Int) (n_Kids : Int) (b_buf : List Int) (R : Type) (kn : QS → Option R) (kx : Nat → QS → Option R) (kr : QS → Option R) :
  interpQ (zam_L self) (zam_G self) 3 28 80 zam_b1 ⟨[(0, [], .c (.o (.hd 0 0))), (1, [], .c (.o (.own 1))), (2, [], .c (.o (.val (.int .i64 at_)))), (7, [], .c (.o (.hd 3 0))), (8, [], .c (.o (.val (.string signs)))), (26, [], .c (.o (.val (.int .i64 x26_)))), (27, [], .c (.o (.val (.int .i64 x27_))))], [], [.cells 84 [.opt b_addr 0 0, .own 4], .view .node v, .dead, .cells 36 [.val (.int .i64 n_Kind), .val (.string n_Key), .val (.string n_Text), .val (.bool n_Whole), .val (.int .i64 n_Int), .val (.int .i64 n_Kids)], .row .u8 5 b_buf]⟩ kn kx kr = (zam_p1 self at_ x26_ x27_ b_addr v n_Kind b_buf).bind fun r => kx 1 ⟨[(0, [], .c (.o (.hd 0 0))), (2, [], .c (.o (.val (.int .i64 r.1)))), (8, [], .c (.o (.val (.string signs))))], [], [.cells 84 [.opt r.2.1 0 0, .own 3], .view .node v, .dead, .row .u8 5 r.2.2]⟩ := by
 refine loop_piece (step := fun x => zam_p1_step self x.1 x26_ x.2.1 x.2.2.1 v n_Kind x.2.2.2) (enc := fun x => ⟨[(0, [], .c (.o (.hd 0 0))), (1, [], .c (.o (.own 1))), (2, [], .c (.o (.val (.int .i64 x.1)))), (7, [], .c (.o (.hd 3 0))), (8, [], .c (.o (.val (.string signs)))), (26, [], .c (.o (.val (.int .i64 x26_)))), (27, [], .c (.o (.val (.int .i64 x.2.1))))], [], [.cells 84 [.opt x.2.2.1 0 0, .own 4], .view .node v, .dead, .cells 36 [.val (.int .i64 n_Kind), .val (.string n_Key), .val (.string n_Text), .val (.bool n_Whole), .val (.int .i64 n_Int), .val (.int .i64 n_Kids)], .row .u8 5 x.2.2.2]⟩) (ko := fun r => kx 1 ⟨[(0, [], .c (.o (.hd 0 0))), (2, [], .c (.o (.val (.int .i64 r.1)))), (8, [], .c (.o (.val (.string signs))))], [], [.cells 84 [.opt r.2.1 0 0, .own 3], .view .node v, .dead, .row .u8 5 r.2.2]⟩) ?_ ?_ (at_, x27_, b_addr, b_buf)
 ·intro x; kernel_rfl
 ·intro x ki; simp only [zam_p1_step, -eq_self, bind_cond, bind_gd, Option.bind_assoc, obS, Sum.elim_inl, Sum.elim_inr, bind_elim]; kernel_rfl
theorem zam_sub1 (self : strings_Builder → (List Eng.Node) → Int → Option (strings_Builder × Int)) : SubOK (zam_L self) (zam_G self) 3 28 80 1 zam_b1 := sub_ok' zam_d1 (fun x R kn kx kr => (zam_p1 self x.1.2.2.1 x.1.2.2.2.2.2.1 x.1.2.2.2.2.2.2.1 x.2.1.1 x.2.2.1 x.2.2.2.2.1.1 x.2.2.2.2.2.1).bind fun r => kx 1 ⟨[(0, [], .c (.o (.hd 0 0))), (2, [], .c (.o (.val (.int .i64 r.1)))), (8, [], .c (.o (.val (.string x.1.2.2.2.2.1))))], [], [.cells 84 [.opt r.2.1 0 0, .own 3], .view .node x.2.2.1, .dead, .row .u8 5 r.2.2]⟩) (by kernel_rfl) fun x R kn kx kr => zam_p1_eq self x.1.2.2.1 x.1.2.2.2.2.1 x.1.2.2.2.2.2.1 x.1.2.2.2.2.2.2.1 x.2.1.1 x.2.2.1 x.2.2.2.2.1.1 x.2.2.2.2.1.2.1 x.2.2.2.2.1.2.2.1 x.2.2.2.2.1.2.2.2.1 x.2.2.2.2.1.2.2.2.2.1 x.2.2.2.2.1.2.2.2.2.2.1 x.2.2.2.2.2.1 R kn kx kr
theorem zam_p0_eq (self : strings_Builder → (List Eng.Node) → Int → Option (strings_Builder × Int)) (at_ : Int) (signs : ByteArray) (b_addr : Bool) (v : List Eng.Node) (b_buf : List Int) (n_Kind : Int) (n_Key : ByteArray) (n_Text : ByteArray) (n_Whole : Bool) (n_Int : Int) (n_Kids : Int) (R : Type) (kn : QS → Option R) (kx : Nat → QS → Option R) (kr : QS → Option R) :
  interpQ (zam_L self) (zam_G self) 3 28 80 zam_b0 ⟨[(0, [], .c (.o (.hd 0 0))), (1, [], .c (.o (.own 1))), (2, [], .c (.o (.val (.int .i64 at_)))), (7, [], .c (.o (.hd 3 0))), (8, [], .c (.o (.val (.string signs))))], [], [.cells 84 [.opt b_addr 0 0, .own 2], .view .node v, .row .u8 5 b_buf, .cells 36 [.val (.int .i64 n_Kind), .val (.string n_Key), .val (.string n_Text), .val (.bool n_Whole), .val (.int .i64 n_Int), .val (.int .i64 n_Kids)]]⟩ kn kx kr = (zam_p0 self at_ signs b_addr v b_buf n_Kind n_Kids).bind fun r => kn ⟨[(0, [], .c (.o (.hd 0 0))), (2, [], .c (.o (.val (.int .i64 r.1))))], [], [.cells 84 [.opt r.2.1 0 0, .own 3], .view .node v, .dead, .row .u8 5 r.2.2]⟩ := by
 simp only [zam_p0, -eq_self, bind_cond, bind_gd, Option.bind_assoc, obS, Sum.elim_inl, Sum.elim_inr, bind_elim]
 kernel_rfl
theorem zam_sub0 (self : strings_Builder → (List Eng.Node) → Int → Option (strings_Builder × Int)) : SubOK (zam_L self) (zam_G self) 3 28 80 0 zam_b0 := sub_ok' zam_d0 (fun x R kn kx kr => (zam_p0 self x.1.2.2.1 x.1.2.2.2.2.1 x.2.1.1 x.2.2.1 x.2.2.2.1 x.2.2.2.2.1.1 x.2.2.2.2.1.2.2.2.2.2.1).bind fun r => kn ⟨[(0, [], .c (.o (.hd 0 0))), (2, [], .c (.o (.val (.int .i64 r.1))))], [], [.cells 84 [.opt r.2.1 0 0, .own 3], .view .node x.2.2.1, .dead, .row .u8 5 r.2.2]⟩) (by kernel_rfl) fun x R kn kx kr => zam_p0_eq self x.1.2.2.1 x.1.2.2.2.2.1 x.2.1.1 x.2.2.1 x.2.2.2.1 x.2.2.2.2.1.1 x.2.2.2.2.1.2.1 x.2.2.2.2.1.2.2.1 x.2.2.2.2.1.2.2.2.1 x.2.2.2.2.1.2.2.2.2.1 x.2.2.2.2.1.2.2.2.2.2.1 R kn kx kr
theorem zam_subs (self : strings_Builder → (List Eng.Node) → Int → Option (strings_Builder × Int)) : subsOK (zam_L self) (zam_G self) 3 28 80 zam_q := subs_of (show AllSub (zam_L self) (zam_G self) 3 28 80 [(0, zam_b0), (1, zam_b1), (2, zam_b2)] from ⟨(zam_sub0 self), (zam_sub1 self), (zam_sub2 self), trivial⟩)
theorem zam_eq (self : strings_Builder → (List Eng.Node) → Int → Option (strings_Builder × Int)) (b : strings_Builder) (v : (List Eng.Node)) (at_ : Int) (R : Type) (k : SV → List SB → Option R) :
  fnQ (zam_L self) (zam_G self) 28 80 zam_q [.tmp 6] [.c (.o (.hd 0 0)), .c (.o (.own 1)), .c (.o (.val (.int .i64 at_)))] [.cells 84 [.opt b.addr 0 0, .own 2], .view .node v, .row .u8 5 b.buf] k = (zam_t self b v at_).bind fun r => k (.c (.o (.val (.int .i64 r.2)))) [.cells 84 [.opt r.1.addr 0 0, .own 3], .view .node v, .dead, .row .u8 5 r.1.buf] := by
 simp only [zam_t, -eq_self, bind_cond, bind_gd, Option.bind_assoc, obS, Sum.elim_inl, Sum.elim_inr, bind_elim]
 kernel_rfl
theorem zam_val_t (self : strings_Builder → (List Eng.Node) → Int → Option (strings_Builder × Int)) (hself : ValidQ Tryd.prog 46 (zam_ws self)) : ValidS Tryd.prog 46 (zam_cs (zam_t self)) :=
 val_ok zam_chk 28 (zam_Gok self hself) zam_da zam_db 3 (fun x y R k => (zam_t self (⟨y.1.1, y.2.2.1⟩ : strings_Builder) y.2.1 x.2.2.1).bind fun r => k (.c (.o (.val (.int .i64 r.2)))) [.cells 84 [.opt r.1.addr 0 0, .own 3], .view .node y.2.1, .dead, .row .u8 5 r.1.buf]) (by kernel_rfl)
  (fun x y R k => by simp only [Option.bind_assoc, obS]) (fun x => Nat.le_of_ble_eq_true rfl) (fun y => rfl) (zam_subs self) fun x y => zam_eq self (⟨y.1.1, y.2.2.1⟩ : strings_Builder) y.2.1 x.2.2.1 _ _
def zam_n : Nat → strings_Builder → (List Eng.Node) → Int → Option (strings_Builder × Int)
 | 0 => fun _ _ _ => none
 | n + 1 => zam_t (zam_n n)
def zam_s (b : strings_Builder) (v : (List Eng.Node)) (at_ : Int) : Option (strings_Builder × Int) := evt fun n => zam_n n b v at_
theorem zam_valn : ∀ n, ValidS Tryd.prog 46 (zam_cs (zam_n n))
 | 0 => ValidS.zero fun args hp R k => by
  show ((Dec.d zam_da args).bind fun x => (Dec.d zam_db hp).bind fun y => none) = none
  cases Dec.d zam_da args with
  | none => rfl
  | some x => cases Dec.d zam_db hp <;> rfl
 | n + 1 => zam_val_t (zam_n n) (prep_loud (zam_valn n))
theorem zam_val : ValidS Tryd.prog 46 (zam_cs zam_s) := ValidS.evt zam_valn (fun args hp R k => by
  show ((Dec.d zam_da args).bind fun x => (Dec.d zam_db hp).bind fun y => _) = (((Dec.d zam_da args).bind fun x => (Dec.d zam_db hp).bind fun y => _) : Option (SV × List SB)).bind _
  cases Dec.d zam_da args with
  | none => rfl
  | some x =>
   cases Dec.d zam_db hp with
   | none => rfl
   | some y => simp only [obS, Option.bind_assoc]) fun args hp v hp' h => by
  obtain ⟨x, h1, h2⟩ := Option.bind_eq_some_iff.1 h
  obtain ⟨y, h3, h4⟩ := Option.bind_eq_some_iff.1 h2
  obtain ⟨r, h5, h6⟩ := Option.bind_eq_some_iff.1 h4
  obtain ⟨n, h7⟩ := evt_some h5
  refine ⟨n, ?_⟩
  show ((Dec.d zam_da args).bind fun x => (Dec.d zam_db hp).bind fun y => _) = _
  rw [h1]
  simp only [obS]
  rw [h3]
  simp only [obS]
  exact (congrArg (fun z => Option.bind z _) h7).trans h6
def zam_w : CQ := zam_ws zam_s
theorem zam_ok : ValidQ Tryd.prog 46 zam_w := prep_loud zam_val

/-! ### (*strings.Builder).Len -/
def zbl_q : IQ :=
 (.seq
 (.reg 2 none [
  oP 2 (.mv (.v (.int .i64 0)))])
 (.seq
 (.reg 2 none [
  oP 3 (.mv (.t 0)),
  oP 4 (.ext .nilck [(.t 3)]),
  oP 5 (.faddr 1 (.t 4)),
  oP 6 (.load none (.t 5)),
  oP 7 (.len (.t 6)),
  oP 2 (.mv (.t 7))])
 (.canon [(2000000, some 0, .u8, 0)] [2] .ret)))
theorem zbl_chk : chk Tryd.prog 47 [] = some (zbl_q.erase, [.tmp 2], 8) := by kernel_rfl
def zbl_s (b : strings_Builder) : Option Int :=
 some (b.buf.length : Int)
def zbl_G : Nat → Option CQ := tblQ []
theorem zbl_Gok : ∀ f C, zbl_G f = some C → ValidQ Tryd.prog f C := fun f C h => by cases h
def zbl_L : Nat → SubQ := tblL []
theorem zbl_subs : subsOK zbl_L zbl_G 2 3 8 zbl_q := subs_of (show AllSub zbl_L zbl_G 2 3 8 [] from trivial)
theorem zbl_eq (b : strings_Builder) (R : Type) (k : SV → List SB → Option R) :
  fnQ zbl_L zbl_G 3 8 zbl_q [.tmp 2] [.c (.o (.hd 0 0))] [.cells 84 [.opt b.addr 0 0, .own 1], .view .u8 b.buf] k = (zbl_s b).bind fun r => k (.c (.o (.val (.int .i64 r)))) [.cells 84 [.opt b.addr 0 0, .own 1], .view .u8 b.buf] := by
 simp only [zbl_s, -eq_self, bind_cond, bind_gd, Option.bind_assoc, obS, Sum.elim_inl, Sum.elim_inr, bind_elim]
 kernel_rfl
def zbl_da := (dCons (dVC (dCO (dH 0 0))) dNil)
def zbl_db := (dCons (dCells 84 (dCons (dP 0 0) (dCons (dO 1) dNil))) (dCons (dView .u8) dNil))
def zbl_c : CS := fun args hp R k => (Dec.d zbl_da args).bind fun x => (Dec.d zbl_db hp).bind fun y => (zbl_s (⟨y.1.1, y.2.1⟩ : strings_Builder)).bind fun r => k (.c (.o (.val (.int .i64 r)))) [.cells 84 [.opt y.1.1 0 0, .own 1], .view .u8 y.2.1]
theorem zbl_val : ValidS Tryd.prog 47 zbl_c :=
 val_ok zbl_chk 3 zbl_Gok zbl_da zbl_db 2 (fun x y R k => (zbl_s (⟨y.1.1, y.2.1⟩ : strings_Builder)).bind fun r => k (.c (.o (.val (.int .i64 r)))) [.cells 84 [.opt y.1.1 0 0, .own 1], .view .u8 y.2.1]) (by kernel_rfl)
  (fun x y R k => by simp only [Option.bind_assoc, obS]) (fun x => Nat.le_of_ble_eq_true rfl) (fun y => rfl) zbl_subs fun x y => zbl_eq (⟨y.1.1, y.2.1⟩ : strings_Builder) _ _
def zbl_w : CQ := prepQ [(0, some 0, none), (0, some 1, some (.u8, 5))] (liftQ [true, false] zbl_c)
theorem zbl_ok : ValidQ Tryd.prog 47 zbl_w := prep_loud zbl_val

/-! ### (*strings.Builder).String -/
def zbm_q : IQ :=
 (.seq
 (.reg 2 none [
  oP 2 (.mv (.v (.string ⟨#[]⟩)))])
 (.seq
 (.reg 2 (some [0, 1, 2, 3, 4, 5, 6, 7, 8, 9, 10, 11]) [
  oP 3 (.mv (.t 0)),
  oP 4 (.ext .nilck [(.t 3)]),
  oP 5 (.faddr 1 (.t 4)),
  oP 6 (.load none (.t 5)),
  oP 7 (.ext .sdata [(.t 6)]),
  oP 8 (.mv (.t 0)),
  oP 9 (.ext .nilck [(.t 8)]),
  oP 10 (.faddr 1 (.t 9)),
  oP 11 (.load none (.t 10)),
  oP 12 (.len (.t 11)),
  oP 13 (.ext (.ustr 5) [(.t 7), (.t 12)]),
  oP 2 (.mv (.t 13))])
 (.canon [(2000000, some 0, .u8, 0)] [2] .ret)))
theorem zbm_chk : chk Tryd.prog 48 [] = some (zbm_q.erase, [.tmp 2], 14) := by kernel_rfl
def zbm_s (b : strings_Builder) : Option (strings_Builder × ByteArray) :=
 gd (0 < b.buf.length) <|
 gd ((b.buf.length : Int) = b.buf.length ∧ 0 < b.buf.length ∧ ∀ x ∈ b.buf, 0 ≤ x ∧ x < 256) <|
 some ((⟨b.addr, []⟩ : strings_Builder), (bytesI b.buf))
def zbm_G : Nat → Option CQ := tblQ []
theorem zbm_Gok : ∀ f C, zbm_G f = some C → ValidQ Tryd.prog f C := fun f C h => by cases h
def zbm_L : Nat → SubQ := tblL []
theorem zbm_subs : subsOK zbm_L zbm_G 2 3 14 zbm_q := subs_of (show AllSub zbm_L zbm_G 2 3 14 [] from trivial)
theorem zbm_eq (b : strings_Builder) (R : Type) (k : SV → List SB → Option R) :
  fnQ zbm_L zbm_G 3 14 zbm_q [.tmp 2] [.c (.o (.hd 0 0))] [.cells 84 [.opt b.addr 0 0, .own 1], .row .u8 5 b.buf] k = (zbm_s b).bind fun r => k (.c (.o (.val (.string r.2)))) [.cells 84 [.opt r.1.addr 0 0, .own 1], .dead] := by
 simp only [zbm_s, -eq_self, bind_cond, bind_gd, Option.bind_assoc, obS, Sum.elim_inl, Sum.elim_inr, bind_elim]
 kernel_rfl
def zbm_da := (dCons (dVC (dCO (dH 0 0))) dNil)
def zbm_db := (dCons (dCells 84 (dCons (dP 0 0) (dCons (dO 1) dNil))) (dCons (dRow .u8 5) dNil))
def zbm_c : CS := fun args hp R k => (Dec.d zbm_da args).bind fun x => (Dec.d zbm_db hp).bind fun y => (zbm_s (⟨y.1.1, y.2.1⟩ : strings_Builder)).bind fun r => k (.c (.o (.val (.string r.2)))) [.cells 84 [.opt r.1.addr 0 0, .own 1], .dead]
theorem zbm_val : ValidS Tryd.prog 48 zbm_c :=
 val_ok zbm_chk 3 zbm_Gok zbm_da zbm_db 2 (fun x y R k => (zbm_s (⟨y.1.1, y.2.1⟩ : strings_Builder)).bind fun r => k (.c (.o (.val (.string r.2)))) [.cells 84 [.opt r.1.addr 0 0, .own 1], .dead]) (by kernel_rfl)
  (fun x y R k => by simp only [Option.bind_assoc, obS]) (fun x => Nat.le_of_ble_eq_true rfl) (fun y => rfl) zbm_subs fun x y => zbm_eq (⟨y.1.1, y.2.1⟩ : strings_Builder) _ _
def zbm_w : CQ := prepQ [(0, some 0, none), (0, some 1, some (.u8, 5))] (liftQ [true, true] zbm_c)
theorem zbm_ok : ValidQ Tryd.prog 48 zbm_w := prep_loud zbm_val

/-! ### signet/json.Print -/
def zai_q : IQ :=
 (.seq
 (.reg 3 none [
  oP 2 (.mv (.v (.string ⟨#[]⟩))),
  oP 3 (.mv (.v (.int .i64 0)))])
 (.seq
 (.seq
 (.reg 7 none [
  oP 5 (.mv (.t 0)),
  oP 6 (.call 36 [(.t 5)]),
  oP 7 (.un .not (.t 6))])
 (.cond (.t 7)
  (.seq
  (.reg 3 none [
   oP 2 (.mv (.v (.string ⟨#[]⟩))),
   oP 3 (.mv (.v (.int .i64 31)))])
  (.canon [] [2, 3] .ret))
  .skip))
 (.seq
 (.reg 4 none [
  oP 4 (.alloc 84 [.pointer none, .slice none 0 0])])
 (.seq
 (.reg 9 none [
  oP 8 (.mv (.t 0)),
  oP 9 (.call 46 [(.t 4), (.t 8), (.v (.int .i64 0))])])
 (.seq
 (.seq
 (.reg 11 none [
  oP 10 (.call 47 [(.t 4)]),
  oP 11 (.bin false .gtr (.t 10) (.v (.int .i64 262144)))])
 (.cond (.t 11)
  (.seq
  (.reg 3 none [
   oP 2 (.mv (.v (.string ⟨#[]⟩))),
   oP 3 (.mv (.v (.int .i64 10)))])
  (.canon [] [2, 3] .ret))
  .skip))
 (.seq
 (.reg 3 none [
  oP 12 (.call 48 [(.t 4)]),
  oP 2 (.mv (.t 12)),
  oP 3 (.mv (.v (.int .i64 0)))])
 (.canon [] [2, 3] .ret)))))))
theorem zai_chk : chk Tryd.prog 32 [] = some (zai_q.erase, [.tmp 2, .tmp 3], 13) := by kernel_rfl
def zai_s (v : (List Eng.Node)) : Option (ByteArray × Int) :=
 (zaj_s v).bind fun r1 =>
 bif (!r1) then (
  some ((⟨#[]⟩ : ByteArray), (31 : Int)))
 else (
  (zam_s (⟨false, []⟩ : strings_Builder) v (0 : Int)).bind fun r2 =>
  (zbl_s r2.1).bind fun r3 =>
  bif decide ((262144 : Int) < r3) then (
   some ((⟨#[]⟩ : ByteArray), (10 : Int)))
  else (
   (zbm_s r2.1).bind fun r4 =>
   some (r4.2, (0 : Int))))
def zai_G : Nat → Option CQ := tblQ [(36, zaj_w), (46, zam_w), (47, zbl_w), (48, zbm_w)]
theorem zai_Gok : ∀ f C, zai_G f = some C → ValidQ Tryd.prog f C := tblQ_valid ⟨zaj_ok, zam_ok, zbl_ok, zbm_ok, trivial⟩
def zai_L : Nat → SubQ := tblL []
theorem zai_subs : subsOK zai_L zai_G 1 5 13 zai_q := subs_of (show AllSub zai_L zai_G 1 5 13 [] from trivial)
theorem zai_eq (v : (List Eng.Node)) (R : Type) (k : SV → List SB → Option R) :
  fnQ zai_L zai_G 5 13 zai_q [.tmp 2, .tmp 3] [.c (.o (.own 0))] [.view .node v] k = (zai_s v).bind fun r => k (.tup [.o (.val (.string r.1)), .o (.val (.int .i64 r.2))]) [.view .node v] := by
 simp only [zai_s, -eq_self, bind_cond, bind_gd, Option.bind_assoc, obS, Sum.elim_inl, Sum.elim_inr, bind_elim]
 kernel_rfl
def zai_da := (dCons (dVC (dCO (dO 0))) dNil)
def zai_db := (dCons (dView .node) dNil)
def zai_c : CS := fun args hp R k => (Dec.d zai_da args).bind fun x => (Dec.d zai_db hp).bind fun y => (zai_s y.1).bind fun r => k (.tup [.o (.val (.string r.1)), .o (.val (.int .i64 r.2))]) [.view .node y.1]
theorem zai_val : ValidS Tryd.prog 32 zai_c :=
 val_ok zai_chk 5 zai_Gok zai_da zai_db 1 (fun x y R k => (zai_s y.1).bind fun r => k (.tup [.o (.val (.string r.1)), .o (.val (.int .i64 r.2))]) [.view .node y.1]) (by kernel_rfl)
  (fun x y R k => by simp only [Option.bind_assoc, obS]) (fun x => Nat.le_of_ble_eq_true rfl) (fun y => rfl) zai_subs fun x y => zai_eq y.1 _ _
def zai_w : CQ := prepQ [(0, none, some (.node, 36))] (liftV [false] zai_c)
theorem zai_ok : ValidQ Tryd.prog 32 zai_w := prep_quiet zai_val

/-! ### signet/header.Print -/
def zae_q : IQ :=
 (.seq
 (.reg 3 none [
  oP 1 (.box 48 4 (.t 0)),
  oP 2 (.mv (.v (.string ⟨#[]⟩))),
  oP 3 (.mv (.v (.int .i64 0)))])
 (.seq
 (.reg 4 none [
  oP 6 (.faddr 0 (.t 1)),
  oP 7 (.load none (.t 6)),
  oP 8 (.call 30 [(.t 7)]),
  oP 4 (.mv (.t 8))])
 (.seq
 (.seq
 (.reg 10 none [
  oP 9 (.mv (.t 4)),
  oP 10 (.bin false .eql (.t 9) (.v (.string ⟨#[]⟩)))])
 (.cond (.t 10)
  (.seq
  (.reg 3 none [
   oP 2 (.mv (.v (.string ⟨#[]⟩))),
   oP 3 (.mv (.v (.int .i64 111)))])
  (.canon [] [2, 3] .ret))
  .skip))
 (.seq
 (.seq
 (.reg 24 none [
  oP 11 (.faddr 1 (.t 1)),
  oP 12 (.load none (.t 11)),
  oP 13 (.call 31 [(.t 12)]),
  oP 14 (.un .not (.t 13)),
  oP 15 (.mv (.t 14)),
  oG 16 (.faddr 3 (.t 1)) 15 false,
  oG 17 (.load none (.t 16)) 15 false,
  oG 18 (.mv (.t 17)) 15 false,
  oG 19 (.faddr 2 (.t 1)) 18 true,
  oG 20 (.load none (.t 19)) 18 true,
  oG 21 (.call 31 [(.t 20)]) 18 true,
  oG 22 (.un .not (.t 21)) 18 true,
  oG 23 (.pick (.t 18) (.t 22) (.v (.bool false))) 15 false,
  oP 24 (.pick (.t 15) (.v (.bool true)) (.t 23))])
 (.cond (.t 24)
  (.seq
  (.reg 3 none [
   oP 2 (.mv (.v (.string ⟨#[]⟩))),
   oP 3 (.mv (.v (.int .i64 110)))])
  (.canon [] [2, 3] .ret))
  .skip))
 (.seq
 (.reg 5 none [
  oP 25 (.build [.int .i64 0, .string ⟨#[]⟩, .string ⟨#[]⟩, .bool false, .int .i64 0, .int .i64 0] [(0, 1, (.v (.int .i64 7))), (5, 1, (.v (.int .i64 2)))]),
  oP 26 (.mv (.t 4)),
  oP 27 (.build [.int .i64 0, .string ⟨#[]⟩, .string ⟨#[]⟩, .bool false, .int .i64 0, .int .i64 0] [(0, 1, (.v (.int .i64 5))), (1, 1, (.v (.string ⟨#[97, 108, 103]⟩))), (2, 1, (.t 26))]),
  oP 28 (.faddr 1 (.t 1)),
  oP 29 (.load none (.t 28)),
  oP 30 (.build [.int .i64 0, .string ⟨#[]⟩, .string ⟨#[]⟩, .bool false, .int .i64 0, .int .i64 0] [(0, 1, (.v (.int .i64 5))), (1, 1, (.v (.string ⟨#[107, 105, 100]⟩))), (2, 1, (.t 29))]),
  oP 31 (.bslice 36 6 3 [.int .i64 0, .string ⟨#[]⟩, .string ⟨#[]⟩, .bool false, .int .i64 0, .int .i64 0] [(0, (.t 25)), (1, (.t 27)), (2, (.t 30))]),
  oP 5 (.mv (.t 31))])
 (.seq
 (.seq
 (.reg 33 none [
  oP 32 (.faddr 3 (.t 1)),
  oP 33 (.load none (.t 32))])
 (.cond (.t 33)
  (.seq
  (.reg 0 none [
   oP 34 (.mv (.t 5)),
   oP 35 (.iaddr 6 (.t 34) (.v (.int .i64 0))),
   oP 36 (.faddr 5 (.t 35)),
   oP 37 (.load none (.t 36)),
   oP 38 (.bin false .add (.t 37) (.v (.int .i64 1))),
   oP 39 (.iaddr 6 (.t 34) (.v (.int .i64 0))),
   oP 40 (.faddr 5 (.t 39)),
   ⟨none, .store 1 (.t 40) (.t 38), none⟩])
  (.reg 5 none [
   oP 41 (.mv (.t 5)),
   oP 42 (.faddr 2 (.t 1)),
   oP 43 (.load none (.t 42)),
   oP 44 (.build [.int .i64 0, .string ⟨#[]⟩, .string ⟨#[]⟩, .bool false, .int .i64 0, .int .i64 0] [(0, 1, (.v (.int .i64 5))), (1, 1, (.v (.string ⟨#[116, 121, 112]⟩))), (2, 1, (.t 43))]),
   oP 45 (.bslice 36 6 1 [.int .i64 0, .string ⟨#[]⟩, .string ⟨#[]⟩, .bool false, .int .i64 0, .int .i64 0] [(0, (.t 44))]),
   oP 46 (.append 36 6 64 [.int .i64 0, .string ⟨#[]⟩, .string ⟨#[]⟩, .bool false, .int .i64 0, .int .i64 0] (.t 41) (.t 45)),
   oP 5 (.mv (.t 46))]))
  .skip))
 (.seq
 (.reg 3 none [
  oP 47 (.mv (.t 5)),
  oP 48 (.call 32 [(.t 47)]),
  oP 49 (.extract (.t 48) 0),
  oP 50 (.extract (.t 48) 1),
  oP 2 (.mv (.t 49)),
  oP 3 (.mv (.t 50))])
 (.canon [] [2, 3] .ret))))))))
theorem zae_chk : chk Tryd.prog 15 [] = some (zae_q.erase, [.tmp 2, .tmp 3], 51) := by kernel_rfl
def zae_s (h : api_Header) : Option (ByteArray × Int) :=
 (keyset_Name_s h.alg).bind fun r1 =>
 bif decide (r1 = (⟨#[]⟩ : ByteArray)) then (
  some ((⟨#[]⟩ : ByteArray), (111 : Int)))
 else (
  (utf8_ValidString_s h.kid).bind fun r2 =>
  bif (!r2) then (
   some ((⟨#[]⟩ : ByteArray), (110 : Int)))
  else (
   bif h.hasTyp then (
    (utf8_ValidString_s h.typ).bind fun r3 =>
    bif (!r3) then (
     some ((⟨#[]⟩ : ByteArray), (110 : Int)))
    else (
     bif h.hasTyp then (
      gd (0 ≤ (0 : Int) ∧ (0 : Int) < [(⟨(7 : Int), (⟨#[]⟩ : ByteArray), (⟨#[]⟩ : ByteArray), false, (0 : Int), (2 : Int)⟩ : Eng.Node), (⟨(5 : Int), (⟨#[97, 108, 103]⟩ : ByteArray), r1, false, (0 : Int), (0 : Int)⟩ : Eng.Node), (⟨(5 : Int), (⟨#[107, 105, 100]⟩ : ByteArray), h.kid, false, (0 : Int), (0 : Int)⟩ : Eng.Node)].length) <|
      gd ((Int.toNat (0 : Int)) < [(⟨(7 : Int), (⟨#[]⟩ : ByteArray), (⟨#[]⟩ : ByteArray), false, (0 : Int), (2 : Int)⟩ : Eng.Node), (⟨(5 : Int), (⟨#[97, 108, 103]⟩ : ByteArray), r1, false, (0 : Int), (0 : Int)⟩ : Eng.Node), (⟨(5 : Int), (⟨#[107, 105, 100]⟩ : ByteArray), h.kid, false, (0 : Int), (0 : Int)⟩ : Eng.Node)].length) <|
      gd ((Int.toNat (0 : Int)) < [(⟨(7 : Int), (⟨#[]⟩ : ByteArray), (⟨#[]⟩ : ByteArray), false, (0 : Int), (2 : Int)⟩ : Eng.Node), (⟨(5 : Int), (⟨#[97, 108, 103]⟩ : ByteArray), r1, false, (0 : Int), (0 : Int)⟩ : Eng.Node), (⟨(5 : Int), (⟨#[107, 105, 100]⟩ : ByteArray), h.kid, false, (0 : Int), (0 : Int)⟩ : Eng.Node)].length) <|
      gd (InI64 ((([(⟨(7 : Int), (⟨#[]⟩ : ByteArray), (⟨#[]⟩ : ByteArray), false, (0 : Int), (2 : Int)⟩ : Eng.Node), (⟨(5 : Int), (⟨#[97, 108, 103]⟩ : ByteArray), r1, false, (0 : Int), (0 : Int)⟩ : Eng.Node), (⟨(5 : Int), (⟨#[107, 105, 100]⟩ : ByteArray), h.kid, false, (0 : Int), (0 : Int)⟩ : Eng.Node)].getD (Int.toNat (0 : Int)) (ET.dft .node)).kids) + (1 : Int))) <|
      gd (0 ≤ (0 : Int) ∧ (0 : Int) < [(⟨(7 : Int), (⟨#[]⟩ : ByteArray), (⟨#[]⟩ : ByteArray), false, (0 : Int), (2 : Int)⟩ : Eng.Node), (⟨(5 : Int), (⟨#[97, 108, 103]⟩ : ByteArray), r1, false, (0 : Int), (0 : Int)⟩ : Eng.Node), (⟨(5 : Int), (⟨#[107, 105, 100]⟩ : ByteArray), h.kid, false, (0 : Int), (0 : Int)⟩ : Eng.Node)].length) <|
      gd ((Int.toNat (0 : Int)) < [(⟨(7 : Int), (⟨#[]⟩ : ByteArray), (⟨#[]⟩ : ByteArray), false, (0 : Int), (2 : Int)⟩ : Eng.Node), (⟨(5 : Int), (⟨#[97, 108, 103]⟩ : ByteArray), r1, false, (0 : Int), (0 : Int)⟩ : Eng.Node), (⟨(5 : Int), (⟨#[107, 105, 100]⟩ : ByteArray), h.kid, false, (0 : Int), (0 : Int)⟩ : Eng.Node)].length) <|
      gd ((Int.toNat (0 : Int)) < [(⟨(7 : Int), (⟨#[]⟩ : ByteArray), (⟨#[]⟩ : ByteArray), false, (0 : Int), (2 : Int)⟩ : Eng.Node), (⟨(5 : Int), (⟨#[97, 108, 103]⟩ : ByteArray), r1, false, (0 : Int), (0 : Int)⟩ : Eng.Node), (⟨(5 : Int), (⟨#[107, 105, 100]⟩ : ByteArray), h.kid, false, (0 : Int), (0 : Int)⟩ : Eng.Node)].length) <|
      gd (([(⟨(7 : Int), (⟨#[]⟩ : ByteArray), (⟨#[]⟩ : ByteArray), false, (0 : Int), (2 : Int)⟩ : Eng.Node), (⟨(5 : Int), (⟨#[97, 108, 103]⟩ : ByteArray), r1, false, (0 : Int), (0 : Int)⟩ : Eng.Node), (⟨(5 : Int), (⟨#[107, 105, 100]⟩ : ByteArray), h.kid, false, (0 : Int), (0 : Int)⟩ : Eng.Node)].set (Int.toNat (0 : Int)) (⟨([(⟨(7 : Int), (⟨#[]⟩ : ByteArray), (⟨#[]⟩ : ByteArray), false, (0 : Int), (2 : Int)⟩ : Eng.Node), (⟨(5 : Int), (⟨#[97, 108, 103]⟩ : ByteArray), r1, false, (0 : Int), (0 : Int)⟩ : Eng.Node), (⟨(5 : Int), (⟨#[107, 105, 100]⟩ : ByteArray), h.kid, false, (0 : Int), (0 : Int)⟩ : Eng.Node)].getD (Int.toNat (0 : Int)) (ET.dft .node)).kind, ([(⟨(7 : Int), (⟨#[]⟩ : ByteArray), (⟨#[]⟩ : ByteArray), false, (0 : Int), (2 : Int)⟩ : Eng.Node), (⟨(5 : Int), (⟨#[97, 108, 103]⟩ : ByteArray), r1, false, (0 : Int), (0 : Int)⟩ : Eng.Node), (⟨(5 : Int), (⟨#[107, 105, 100]⟩ : ByteArray), h.kid, false, (0 : Int), (0 : Int)⟩ : Eng.Node)].getD (Int.toNat (0 : Int)) (ET.dft .node)).key, ([(⟨(7 : Int), (⟨#[]⟩ : ByteArray), (⟨#[]⟩ : ByteArray), false, (0 : Int), (2 : Int)⟩ : Eng.Node), (⟨(5 : Int), (⟨#[97, 108, 103]⟩ : ByteArray), r1, false, (0 : Int), (0 : Int)⟩ : Eng.Node), (⟨(5 : Int), (⟨#[107, 105, 100]⟩ : ByteArray), h.kid, false, (0 : Int), (0 : Int)⟩ : Eng.Node)].getD (Int.toNat (0 : Int)) (ET.dft .node)).text, ([(⟨(7 : Int), (⟨#[]⟩ : ByteArray), (⟨#[]⟩ : ByteArray), false, (0 : Int), (2 : Int)⟩ : Eng.Node), (⟨(5 : Int), (⟨#[97, 108, 103]⟩ : ByteArray), r1, false, (0 : Int), (0 : Int)⟩ : Eng.Node), (⟨(5 : Int), (⟨#[107, 105, 100]⟩ : ByteArray), h.kid, false, (0 : Int), (0 : Int)⟩ : Eng.Node)].getD (Int.toNat (0 : Int)) (ET.dft .node)).whole, ([(⟨(7 : Int), (⟨#[]⟩ : ByteArray), (⟨#[]⟩ : ByteArray), false, (0 : Int), (2 : Int)⟩ : Eng.Node), (⟨(5 : Int), (⟨#[97, 108, 103]⟩ : ByteArray), r1, false, (0 : Int), (0 : Int)⟩ : Eng.Node), (⟨(5 : Int), (⟨#[107, 105, 100]⟩ : ByteArray), h.kid, false, (0 : Int), (0 : Int)⟩ : Eng.Node)].getD (Int.toNat (0 : Int)) (ET.dft .node)).int, ((([(⟨(7 : Int), (⟨#[]⟩ : ByteArray), (⟨#[]⟩ : ByteArray), false, (0 : Int), (2 : Int)⟩ : Eng.Node), (⟨(5 : Int), (⟨#[97, 108, 103]⟩ : ByteArray), r1, false, (0 : Int), (0 : Int)⟩ : Eng.Node), (⟨(5 : Int), (⟨#[107, 105, 100]⟩ : ByteArray), h.kid, false, (0 : Int), (0 : Int)⟩ : Eng.Node)].getD (Int.toNat (0 : Int)) (ET.dft .node)).kids) + (1 : Int))⟩ : Eng.Node)).length + ([(⟨(5 : Int), (⟨#[116, 121, 112]⟩ : ByteArray), h.typ, false, (0 : Int), (0 : Int)⟩ : Eng.Node)] : List Eng.Node).length ≤ 9223372036854775807 ∧ (([(⟨(7 : Int), (⟨#[]⟩ : ByteArray), (⟨#[]⟩ : ByteArray), false, (0 : Int), (2 : Int)⟩ : Eng.Node), (⟨(5 : Int), (⟨#[97, 108, 103]⟩ : ByteArray), r1, false, (0 : Int), (0 : Int)⟩ : Eng.Node), (⟨(5 : Int), (⟨#[107, 105, 100]⟩ : ByteArray), h.kid, false, (0 : Int), (0 : Int)⟩ : Eng.Node)].set (Int.toNat (0 : Int)) (⟨([(⟨(7 : Int), (⟨#[]⟩ : ByteArray), (⟨#[]⟩ : ByteArray), false, (0 : Int), (2 : Int)⟩ : Eng.Node), (⟨(5 : Int), (⟨#[97, 108, 103]⟩ : ByteArray), r1, false, (0 : Int), (0 : Int)⟩ : Eng.Node), (⟨(5 : Int), (⟨#[107, 105, 100]⟩ : ByteArray), h.kid, false, (0 : Int), (0 : Int)⟩ : Eng.Node)].getD (Int.toNat (0 : Int)) (ET.dft .node)).kind, ([(⟨(7 : Int), (⟨#[]⟩ : ByteArray), (⟨#[]⟩ : ByteArray), false, (0 : Int), (2 : Int)⟩ : Eng.Node), (⟨(5 : Int), (⟨#[97, 108, 103]⟩ : ByteArray), r1, false, (0 : Int), (0 : Int)⟩ : Eng.Node), (⟨(5 : Int), (⟨#[107, 105, 100]⟩ : ByteArray), h.kid, false, (0 : Int), (0 : Int)⟩ : Eng.Node)].getD (Int.toNat (0 : Int)) (ET.dft .node)).key, ([(⟨(7 : Int), (⟨#[]⟩ : ByteArray), (⟨#[]⟩ : ByteArray), false, (0 : Int), (2 : Int)⟩ : Eng.Node), (⟨(5 : Int), (⟨#[97, 108, 103]⟩ : ByteArray), r1, false, (0 : Int), (0 : Int)⟩ : Eng.Node), (⟨(5 : Int), (⟨#[107, 105, 100]⟩ : ByteArray), h.kid, false, (0 : Int), (0 : Int)⟩ : Eng.Node)].getD (Int.toNat (0 : Int)) (ET.dft .node)).text, ([(⟨(7 : Int), (⟨#[]⟩ : ByteArray), (⟨#[]⟩ : ByteArray), false, (0 : Int), (2 : Int)⟩ : Eng.Node), (⟨(5 : Int), (⟨#[97, 108, 103]⟩ : ByteArray), r1, false, (0 : Int), (0 : Int)⟩ : Eng.Node), (⟨(5 : Int), (⟨#[107, 105, 100]⟩ : ByteArray), h.kid, false, (0 : Int), (0 : Int)⟩ : Eng.Node)].getD (Int.toNat (0 : Int)) (ET.dft .node)).whole, ([(⟨(7 : Int), (⟨#[]⟩ : ByteArray), (⟨#[]⟩ : ByteArray), false, (0 : Int), (2 : Int)⟩ : Eng.Node), (⟨(5 : Int), (⟨#[97, 108, 103]⟩ : ByteArray), r1, false, (0 : Int), (0 : Int)⟩ : Eng.Node), (⟨(5 : Int), (⟨#[107, 105, 100]⟩ : ByteArray), h.kid, false, (0 : Int), (0 : Int)⟩ : Eng.Node)].getD (Int.toNat (0 : Int)) (ET.dft .node)).int, ((([(⟨(7 : Int), (⟨#[]⟩ : ByteArray), (⟨#[]⟩ : ByteArray), false, (0 : Int), (2 : Int)⟩ : Eng.Node), (⟨(5 : Int), (⟨#[97, 108, 103]⟩ : ByteArray), r1, false, (0 : Int), (0 : Int)⟩ : Eng.Node), (⟨(5 : Int), (⟨#[107, 105, 100]⟩ : ByteArray), h.kid, false, (0 : Int), (0 : Int)⟩ : Eng.Node)].getD (Int.toNat (0 : Int)) (ET.dft .node)).kids) + (1 : Int))⟩ : Eng.Node)).length + ([(⟨(5 : Int), (⟨#[116, 121, 112]⟩ : ByteArray), h.typ, false, (0 : Int), (0 : Int)⟩ : Eng.Node)] : List Eng.Node).length) * 64 ≤ 140737488355328) <|
      (zai_s (([(⟨(7 : Int), (⟨#[]⟩ : ByteArray), (⟨#[]⟩ : ByteArray), false, (0 : Int), (2 : Int)⟩ : Eng.Node), (⟨(5 : Int), (⟨#[97, 108, 103]⟩ : ByteArray), r1, false, (0 : Int), (0 : Int)⟩ : Eng.Node), (⟨(5 : Int), (⟨#[107, 105, 100]⟩ : ByteArray), h.kid, false, (0 : Int), (0 : Int)⟩ : Eng.Node)].set (Int.toNat (0 : Int)) (⟨([(⟨(7 : Int), (⟨#[]⟩ : ByteArray), (⟨#[]⟩ : ByteArray), false, (0 : Int), (2 : Int)⟩ : Eng.Node), (⟨(5 : Int), (⟨#[97, 108, 103]⟩ : ByteArray), r1, false, (0 : Int), (0 : Int)⟩ : Eng.Node), (⟨(5 : Int), (⟨#[107, 105, 100]⟩ : ByteArray), h.kid, false, (0 : Int), (0 : Int)⟩ : Eng.Node)].getD (Int.toNat (0 : Int)) (ET.dft .node)).kind, ([(⟨(7 : Int), (⟨#[]⟩ : ByteArray), (⟨#[]⟩ : ByteArray), false, (0 : Int), (2 : Int)⟩ : Eng.Node), (⟨(5 : Int), (⟨#[97, 108, 103]⟩ : ByteArray), r1, false, (0 : Int), (0 : Int)⟩ : Eng.Node), (⟨(5 : Int), (⟨#[107, 105, 100]⟩ : ByteArray), h.kid, false, (0 : Int), (0 : Int)⟩ : Eng.Node)].getD (Int.toNat (0 : Int)) (ET.dft .node)).key, ([(⟨(7 : Int), (⟨#[]⟩ : ByteArray), (⟨#[]⟩ : ByteArray), false, (0 : Int), (2 : Int)⟩ : Eng.Node), (⟨(5 : Int), (⟨#[97, 108, 103]⟩ : ByteArray), r1, false, (0 : Int), (0 : Int)⟩ : Eng.Node), (⟨(5 : Int), (⟨#[107, 105, 100]⟩ : ByteArray), h.kid, false, (0 : Int), (0 : Int)⟩ : Eng.Node)].getD (Int.toNat (0 : Int)) (ET.dft .node)).text, ([(⟨(7 : Int), (⟨#[]⟩ : ByteArray), (⟨#[]⟩ : ByteArray), false, (0 : Int), (2 : Int)⟩ : Eng.Node), (⟨(5 : Int), (⟨#[97, 108, 103]⟩ : ByteArray), r1, false, (0 : Int), (0 : Int)⟩ : Eng.Node), (⟨(5 : Int), (⟨#[107, 105, 100]⟩ : ByteArray), h.kid, false, (0 : Int), (0 : Int)⟩ : Eng.Node)].getD (Int.toNat (0 : Int)) (ET.dft .node)).whole, ([(⟨(7 : Int), (⟨#[]⟩ : ByteArray), (⟨#[]⟩ : ByteArray), false, (0 : Int), (2 : Int)⟩ : Eng.Node), (⟨(5 : Int), (⟨#[97, 108, 103]⟩ : ByteArray), r1, false, (0 : Int), (0 : Int)⟩ : Eng.Node), (⟨(5 : Int), (⟨#[107, 105, 100]⟩ : ByteArray), h.kid, false, (0 : Int), (0 : Int)⟩ : Eng.Node)].getD (Int.toNat (0 : Int)) (ET.dft .node)).int, ((([(⟨(7 : Int), (⟨#[]⟩ : ByteArray), (⟨#[]⟩ : ByteArray), false, (0 : Int), (2 : Int)⟩ : Eng.Node), (⟨(5 : Int), (⟨#[97, 108, 103]⟩ : ByteArray), r1, false, (0 : Int), (0 : Int)⟩ : Eng.Node), (⟨(5 : Int), (⟨#[107, 105, 100]⟩ : ByteArray), h.kid, false, (0 : Int), (0 : Int)⟩ : Eng.Node)].getD (Int.toNat (0 : Int)) (ET.dft .node)).kids) + (1 : Int))⟩ : Eng.Node)) ++ [(⟨(5 : Int), (⟨#[116, 121, 112]⟩ : ByteArray), h.typ, false, (0 : Int), (0 : Int)⟩ : Eng.Node)])).bind fun r4 =>
      some (r4.1, r4.2))
     else (
      (zai_s [(⟨(7 : Int), (⟨#[]⟩ : ByteArray), (⟨#[]⟩ : ByteArray), false, (0 : Int), (2 : Int)⟩ : Eng.Node), (⟨(5 : Int), (⟨#[97, 108, 103]⟩ : ByteArray), r1, false, (0 : Int), (0 : Int)⟩ : Eng.Node), (⟨(5 : Int), (⟨#[107, 105, 100]⟩ : ByteArray), h.kid, false, (0 : Int), (0 : Int)⟩ : Eng.Node)]).bind fun r5 =>
      some (r5.1, r5.2))))
   else (
    bif h.hasTyp then (
     gd (0 ≤ (0 : Int) ∧ (0 : Int) < [(⟨(7 : Int), (⟨#[]⟩ : ByteArray), (⟨#[]⟩ : ByteArray), false, (0 : Int), (2 : Int)⟩ : Eng.Node), (⟨(5 : Int), (⟨#[97, 108, 103]⟩ : ByteArray), r1, false, (0 : Int), (0 : Int)⟩ : Eng.Node), (⟨(5 : Int), (⟨#[107, 105, 100]⟩ : ByteArray), h.kid, false, (0 : Int), (0 : Int)⟩ : Eng.Node)].length) <|
     gd ((Int.toNat (0 : Int)) < [(⟨(7 : Int), (⟨#[]⟩ : ByteArray), (⟨#[]⟩ : ByteArray), false, (0 : Int), (2 : Int)⟩ : Eng.Node), (⟨(5 : Int), (⟨#[97, 108, 103]⟩ : ByteArray), r1, false, (0 : Int), (0 : Int)⟩ : Eng.Node), (⟨(5 : Int), (⟨#[107, 105, 100]⟩ : ByteArray), h.kid, false, (0 : Int), (0 : Int)⟩ : Eng.Node)].length) <|
     gd ((Int.toNat (0 : Int)) < [(⟨(7 : Int), (⟨#[]⟩ : ByteArray), (⟨#[]⟩ : ByteArray), false, (0 : Int), (2 : Int)⟩ : Eng.Node), (⟨(5 : Int), (⟨#[97, 108, 103]⟩ : ByteArray), r1, false, (0 : Int), (0 : Int)⟩ : Eng.Node), (⟨(5 : Int), (⟨#[107, 105, 100]⟩ : ByteArray), h.kid, false, (0 : Int), (0 : Int)⟩ : Eng.Node)].length) <|
     gd (InI64 ((([(⟨(7 : Int), (⟨#[]⟩ : ByteArray), (⟨#[]⟩ : ByteArray), false, (0 : Int), (2 : Int)⟩ : Eng.Node), (⟨(5 : Int), (⟨#[97, 108, 103]⟩ : ByteArray), r1, false, (0 : Int), (0 : Int)⟩ : Eng.Node), (⟨(5 : Int), (⟨#[107, 105, 100]⟩ : ByteArray), h.kid, false, (0 : Int), (0 : Int)⟩ : Eng.Node)].getD (Int.toNat (0 : Int)) (ET.dft .node)).kids) + (1 : Int))) <|
     gd (0 ≤ (0 : Int) ∧ (0 : Int) < [(⟨(7 : Int), (⟨#[]⟩ : ByteArray), (⟨#[]⟩ : ByteArray), false, (0 : Int), (2 : Int)⟩ : Eng.Node), (⟨(5 : Int), (⟨#[97, 108, 103]⟩ : ByteArray), r1, false, (0 : Int), (0 : Int)⟩ : Eng.Node), (⟨(5 : Int), (⟨#[107, 105, 100]⟩ : ByteArray), h.kid, false, (0 : Int), (0 : Int)⟩ : Eng.Node)].length) <|
     gd ((Int.toNat (0 : Int)) < [(⟨(7 : Int), (⟨#[]⟩ : ByteArray), (⟨#[]⟩ : ByteArray), false, (0 : Int), (2 : Int)⟩ : Eng.Node), (⟨(5 : Int), (⟨#[97, 108, 103]⟩ : ByteArray), r1, false, (0 : Int), (0 : Int)⟩ : Eng.Node), (⟨(5 : Int), (⟨#[107, 105, 100]⟩ : ByteArray), h.kid, false, (0 : Int), (0 : Int)⟩ : Eng.Node)].length) <|
     gd ((Int.toNat (0 : Int)) < [(⟨(7 : Int), (⟨#[]⟩ : ByteArray), (⟨#[]⟩ : ByteArray), false, (0 : Int), (2 : Int)⟩ : Eng.Node), (⟨(5 : Int), (⟨#[97, 108, 103]⟩ : ByteArray), r1, false, (0 : Int), (0 : Int)⟩ : Eng.Node), (⟨(5 : Int), (⟨#[107, 105, 100]⟩ : ByteArray), h.kid, false, (0 : Int), (0 : Int)⟩ : Eng.Node)].length) <|
     gd (([(⟨(7 : Int), (⟨#[]⟩ : ByteArray), (⟨#[]⟩ : ByteArray), false, (0 : Int), (2 : Int)⟩ : Eng.Node), (⟨(5 : Int), (⟨#[97, 108, 103]⟩ : ByteArray), r1, false, (0 : Int), (0 : Int)⟩ : Eng.Node), (⟨(5 : Int), (⟨#[107, 105, 100]⟩ : ByteArray), h.kid, false, (0 : Int), (0 : Int)⟩ : Eng.Node)].set (Int.toNat (0 : Int)) (⟨([(⟨(7 : Int), (⟨#[]⟩ : ByteArray), (⟨#[]⟩ : ByteArray), false, (0 : Int), (2 : Int)⟩ : Eng.Node), (⟨(5 : Int), (⟨#[97, 108, 103]⟩ : ByteArray), r1, false, (0 : Int), (0 : Int)⟩ : Eng.Node), (⟨(5 : Int), (⟨#[107, 105, 100]⟩ : ByteArray), h.kid, false, (0 : Int), (0 : Int)⟩ : Eng.Node)].getD (Int.toNat (0 : Int)) (ET.dft .node)).kind, ([(⟨(7 : Int), (⟨#[]⟩ : ByteArray), (⟨#[]⟩ : ByteArray), false, (0 : Int), (2 : Int)⟩ : Eng.Node), (⟨(5 : Int), (⟨#[97, 108, 103]⟩ : ByteArray), r1, false, (0 : Int), (0 : Int)⟩ : Eng.Node), (⟨(5 : Int), (⟨#[107, 105, 100]⟩ : ByteArray), h.kid, false, (0 : Int), (0 : Int)⟩ : Eng.Node)].getD (Int.toNat (0 : Int)) (ET.dft .node)).key, ([(⟨(7 : Int), (⟨#[]⟩ : ByteArray), (⟨#[]⟩ : ByteArray), false, (0 : Int), (2 : Int)⟩ : Eng.Node), (⟨(5 : Int), (⟨#[97, 108, 103]⟩ : ByteArray), r1, false, (0 : Int), (0 : Int)⟩ : Eng.Node), (⟨(5 : Int), (⟨#[107, 105, 100]⟩ : ByteArray), h.kid, false, (0 : Int), (0 : Int)⟩ : Eng.Node)].getD (Int.toNat (0 : Int)) (ET.dft .node)).text, ([(⟨(7 : Int), (⟨#[]⟩ : ByteArray), (⟨#[]⟩ : ByteArray), false, (0 : Int), (2 : Int)⟩ : Eng.Node), (⟨(5 : Int), (⟨#[97, 108, 103]⟩ : ByteArray), r1, false, (0 : Int), (0 : Int)⟩ : Eng.Node), (⟨(5 : Int), (⟨#[107, 105, 100]⟩ : ByteArray), h.kid, false, (0 : Int), (0 : Int)⟩ : Eng.Node)].getD (Int.toNat (0 : Int)) (ET.dft .node)).whole, ([(⟨(7 : Int), (⟨#[]⟩ : ByteArray), (⟨#[]⟩ : ByteArray), false, (0 : Int), (2 : Int)⟩ : Eng.Node), (⟨(5 : Int), (⟨#[97, 108, 103]⟩ : ByteArray), r1, false, (0 : Int), (0 : Int)⟩ : Eng.Node), (⟨(5 : Int), (⟨#[107, 105, 100]⟩ : ByteArray), h.kid, false, (0 : Int), (0 : Int)⟩ : Eng.Node)].getD (Int.toNat (0 : Int)) (ET.dft .node)).int, ((([(⟨(7 : Int), (⟨#[]⟩ : ByteArray), (⟨#[]⟩ : ByteArray), false, (0 : Int), (2 : Int)⟩ : Eng.Node), (⟨(5 : Int), (⟨#[97, 108, 103]⟩ : ByteArray), r1, false, (0 : Int), (0 : Int)⟩ : Eng.Node), (⟨(5 : Int), (⟨#[107, 105, 100]⟩ : ByteArray), h.kid, false, (0 : Int), (0 : Int)⟩ : Eng.Node)].getD (Int.toNat (0 : Int)) (ET.dft .node)).kids) + (1 : Int))⟩ : Eng.Node)).length + ([(⟨(5 : Int), (⟨#[116, 121, 112]⟩ : ByteArray), h.typ, false, (0 : Int), (0 : Int)⟩ : Eng.Node)] : List Eng.Node).length ≤ 9223372036854775807 ∧ (([(⟨(7 : Int), (⟨#[]⟩ : ByteArray), (⟨#[]⟩ : ByteArray), false, (0 : Int), (2 : Int)⟩ : Eng.Node), (⟨(5 : Int), (⟨#[97, 108, 103]⟩ : ByteArray), r1, false, (0 : Int), (0 : Int)⟩ : Eng.Node), (⟨(5 : Int), (⟨#[107, 105, 100]⟩ : ByteArray), h.kid, false, (0 : Int), (0 : Int)⟩ : Eng.Node)].set (Int.toNat (0 : Int)) (⟨([(⟨(7 : Int), (⟨#[]⟩ : ByteArray), (⟨#[]⟩ : ByteArray), false, (0 : Int), (2 : Int)⟩ : Eng.Node), (⟨(5 : Int), (⟨#[97, 108, 103]⟩ : ByteArray), r1, false, (0 : Int), (0 : Int)⟩ : Eng.Node), (⟨(5 : Int), (⟨#[107, 105, 100]⟩ : ByteArray), h.kid, false, (0 : Int), (0 : Int)⟩ : Eng.Node)].getD (Int.toNat (0 : Int)) (ET.dft .node)).kind, ([(⟨(7 : Int), (⟨#[]⟩ : ByteArray), (⟨#[]⟩ : ByteArray), false, (0 : Int), (2 : Int)⟩ : Eng.Node), (⟨(5 : Int), (⟨#[97, 108, 103]⟩ : ByteArray), r1, false, (0 : Int), (0 : Int)⟩ : Eng.Node), (⟨(5 : Int), (⟨#[107, 105, 100]⟩ : ByteArray), h.kid, false, (0 : Int), (0 : Int)⟩ : Eng.Node)].getD (Int.toNat (0 : Int)) (ET.dft .node)).key, ([(⟨(7 : Int), (⟨#[]⟩ : ByteArray), (⟨#[]⟩ : ByteArray), false, (0 : Int), (2 : Int)⟩ : Eng.Node), (⟨(5 : Int), (⟨#[97, 108, 103]⟩ : ByteArray), r1, false, (0 : Int), (0 : Int)⟩ : Eng.Node), (⟨(5 : Int), (⟨#[107, 105, 100]⟩ : ByteArray), h.kid, false, (0 : Int), (0 : Int)⟩ : Eng.Node)].getD (Int.toNat (0 : Int)) (ET.dft .node)).text, ([(⟨(7 : Int), (⟨#[]⟩ : ByteArray), (⟨#[]⟩ : ByteArray), false, (0 : Int), (2 : Int)⟩ : Eng.Node), (⟨(5 : Int), (⟨#[97, 108, 103]⟩ : ByteArray), r1, false, (0 : Int), (0 : Int)⟩ : Eng.Node), (⟨(5 : Int), (⟨#[107, 105, 100]⟩ : ByteArray), h.kid, false, (0 : Int), (0 : Int)⟩ : Eng.Node)].getD (Int.toNat (0 : Int)) (ET.dft .node)).whole, ([(⟨(7 : Int), (⟨#[]⟩ : ByteArray), (⟨#[]⟩ : ByteArray), false, (0 : Int), (2 : Int)⟩ : Eng.Node), (⟨(5 : Int), (⟨#[97, 108, 103]⟩ : ByteArray), r1, false, (0 : Int), (0 : Int)⟩ : Eng.Node), (⟨(5 : Int), (⟨#[107, 105, 100]⟩ : ByteArray), h.kid, false, (0 : Int), (0 : Int)⟩ : Eng.Node)].getD (Int.toNat (0 : Int)) (ET.dft .node)).int, ((([(⟨(7 : Int), (⟨#[]⟩ : ByteArray), (⟨#[]⟩ : ByteArray), false, (0 : Int), (2 : Int)⟩ : Eng.Node), (⟨(5 : Int), (⟨#[97, 108, 103]⟩ : ByteArray), r1, false, (0 : Int), (0 : Int)⟩ : Eng.Node), (⟨(5 : Int), (⟨#[107, 105, 100]⟩ : ByteArray), h.kid, false, (0 : Int), (0 : Int)⟩ : Eng.Node)].getD (Int.toNat (0 : Int)) (ET.dft .node)).kids) + (1 : Int))⟩ : Eng.Node)).length + ([(⟨(5 : Int), (⟨#[116, 121, 112]⟩ : ByteArray), h.typ, false, (0 : Int), (0 : Int)⟩ : Eng.Node)] : List Eng.Node).length) * 64 ≤ 140737488355328) <|
     (zai_s (([(⟨(7 : Int), (⟨#[]⟩ : ByteArray), (⟨#[]⟩ : ByteArray), false, (0 : Int), (2 : Int)⟩ : Eng.Node), (⟨(5 : Int), (⟨#[97, 108, 103]⟩ : ByteArray), r1, false, (0 : Int), (0 : Int)⟩ : Eng.Node), (⟨(5 : Int), (⟨#[107, 105, 100]⟩ : ByteArray), h.kid, false, (0 : Int), (0 : Int)⟩ : Eng.Node)].set (Int.toNat (0 : Int)) (⟨([(⟨(7 : Int), (⟨#[]⟩ : ByteArray), (⟨#[]⟩ : ByteArray), false, (0 : Int), (2 : Int)⟩ : Eng.Node), (⟨(5 : Int), (⟨#[97, 108, 103]⟩ : ByteArray), r1, false, (0 : Int), (0 : Int)⟩ : Eng.Node), (⟨(5 : Int), (⟨#[107, 105, 100]⟩ : ByteArray), h.kid, false, (0 : Int), (0 : Int)⟩ : Eng.Node)].getD (Int.toNat (0 : Int)) (ET.dft .node)).kind, ([(⟨(7 : Int), (⟨#[]⟩ : ByteArray), (⟨#[]⟩ : ByteArray), false, (0 : Int), (2 : Int)⟩ : Eng.Node), (⟨(5 : Int), (⟨#[97, 108, 103]⟩ : ByteArray), r1, false, (0 : Int), (0 : Int)⟩ : Eng.Node), (⟨(5 : Int), (⟨#[107, 105, 100]⟩ : ByteArray), h.kid, false, (0 : Int), (0 : Int)⟩ : Eng.Node)].getD (Int.toNat (0 : Int)) (ET.dft .node)).key, ([(⟨(7 : Int), (⟨#[]⟩ : ByteArray), (⟨#[]⟩ : ByteArray), false, (0 : Int), (2 : Int)⟩ : Eng.Node), (⟨(5 : Int), (⟨#[97, 108, 103]⟩ : ByteArray), r1, false, (0 : Int), (0 : Int)⟩ : Eng.Node), (⟨(5 : Int), (⟨#[107, 105, 100]⟩ : ByteArray), h.kid, false, (0 : Int), (0 : Int)⟩ : Eng.Node)].getD (Int.toNat (0 : Int)) (ET.dft .node)).text, ([(⟨(7 : Int), (⟨#[]⟩ : ByteArray), (⟨#[]⟩ : ByteArray), false, (0 : Int), (2 : Int)⟩ : Eng.Node), (⟨(5 : Int), (⟨#[97, 108, 103]⟩ : ByteArray), r1, false, (0 : Int), (0 : Int)⟩ : Eng.Node), (⟨(5 : Int), (⟨#[107, 105, 100]⟩ : ByteArray), h.kid, false, (0 : Int), (0 : Int)⟩ : Eng.Node)].getD (Int.toNat (0 : Int)) (ET.dft .node)).whole, ([(⟨(7 : Int), (⟨#[]⟩ : ByteArray), (⟨#[]⟩ : ByteArray), false, (0 : Int), (2 : Int)⟩ : Eng.Node), (⟨(5 : Int), (⟨#[97, 108, 103]⟩ : ByteArray), r1, false, (0 : Int), (0 : Int)⟩ : Eng.Node), (⟨(5 : Int), (⟨#[107, 105, 100]⟩ : ByteArray), h.kid, false, (0 : Int), (0 : Int)⟩ : Eng.Node)].getD (Int.toNat (0 : Int)) (ET.dft .node)).int, ((([(⟨(7 : Int), (⟨#[]⟩ : ByteArray), (⟨#[]⟩ : ByteArray), false, (0 : Int), (2 : Int)⟩ : Eng.Node), (⟨(5 : Int), (⟨#[97, 108, 103]⟩ : ByteArray), r1, false, (0 : Int), (0 : Int)⟩ : Eng.Node), (⟨(5 : Int), (⟨#[107, 105, 100]⟩ : ByteArray), h.kid, false, (0 : Int), (0 : Int)⟩ : Eng.Node)].getD (Int.toNat (0 : Int)) (ET.dft .node)).kids) + (1 : Int))⟩ : Eng.Node)) ++ [(⟨(5 : Int), (⟨#[116, 121, 112]⟩ : ByteArray), h.typ, false, (0 : Int), (0 : Int)⟩ : Eng.Node)])).bind fun r6 =>
     some (r6.1, r6.2))
    else (
     (zai_s [(⟨(7 : Int), (⟨#[]⟩ : ByteArray), (⟨#[]⟩ : ByteArray), false, (0 : Int), (2 : Int)⟩ : Eng.Node), (⟨(5 : Int), (⟨#[97, 108, 103]⟩ : ByteArray), r1, false, (0 : Int), (0 : Int)⟩ : Eng.Node), (⟨(5 : Int), (⟨#[107, 105, 100]⟩ : ByteArray), h.kid, false, (0 : Int), (0 : Int)⟩ : Eng.Node)]).bind fun r7 =>
     some (r7.1, r7.2)))))
def zae_G : Nat → Option CQ := tblQ [(30, keyset_Name_w), (31, utf8_ValidString_w), (32, zai_w)]
theorem zae_Gok : ∀ f C, zae_G f = some C → ValidQ Tryd.prog f C := tblQ_valid ⟨keyset_Name_ok, utf8_ValidString_ok, zai_ok, trivial⟩
def zae_L : Nat → SubQ := tblL []
theorem zae_subs : subsOK zae_L zae_G 0 6 51 zae_q := subs_of (show AllSub zae_L zae_G 0 6 51 [] from trivial)
theorem zae_eq (h : api_Header) (R : Type) (k : SV → List SB → Option R) :
  fnQ zae_L zae_G 6 51 zae_q [.tmp 2, .tmp 3] [.c (.agg [.val (.int .i64 h.alg), .val (.string h.kid), .val (.string h.typ), .val (.bool h.hasTyp)])] [] k = (zae_s h).bind fun r => k (.tup [.o (.val (.string r.1)), .o (.val (.int .i64 r.2))]) [] := by
 simp only [zae_s, -eq_self, bind_cond, bind_gd, Option.bind_assoc, obS, Sum.elim_inl, Sum.elim_inr, bind_elim]
 kernel_rfl
def zae_da := (dCons (dVC (dCA (dCons (dI .i64) (dCons dS (dCons dS (dCons dB dNil)))))) dNil)
def zae_db := (dNil : Dec Unit (List SB))
def zae_c : CS := fun args hp R k => (Dec.d zae_da args).bind fun x => (Dec.d zae_db hp).bind fun y => (zae_s (⟨x.1.1, x.1.2.1, x.1.2.2.1, x.1.2.2.2.1⟩ : api_Header)).bind fun r => k (.tup [.o (.val (.string r.1)), .o (.val (.int .i64 r.2))]) []
theorem zae_val : ValidS Tryd.prog 15 zae_c :=
 val_ok zae_chk 6 zae_Gok zae_da zae_db 0 (fun x y R k => (zae_s (⟨x.1.1, x.1.2.1, x.1.2.2.1, x.1.2.2.2.1⟩ : api_Header)).bind fun r => k (.tup [.o (.val (.string r.1)), .o (.val (.int .i64 r.2))]) []) (by kernel_rfl)
  (fun x y R k => by simp only [Option.bind_assoc, obS]) (fun x => Nat.le_of_ble_eq_true rfl) (fun y => rfl) zae_subs fun x y => zae_eq (⟨x.1.1, x.1.2.1, x.1.2.2.1, x.1.2.2.2.1⟩ : api_Header) _ _
def zae_w : CQ := liftV [] zae_c
theorem zae_ok : ValidQ Tryd.prog 15 zae_w := liftV_valid zae_val

/-! ### signet/signetref16.names -/
def zap_q : IQ :=
 (.seq
 (.reg 0 none [
  oP 0 (.mv (.v (.slice none 0 0)))])
 (.seq
 (.reg 0 none [
  oP 1 (.bslice 9 1 13 [.string ⟨#[]⟩] [(0, (.v (.string ⟨#[]⟩))), (1, (.v (.string ⟨#[72, 83, 50, 53, 54]⟩))), (2, (.v (.string ⟨#[72, 83, 51, 56, 52]⟩))), (3, (.v (.string ⟨#[72, 83, 53, 49, 50]⟩))), (4, (.v (.string ⟨#[82, 83, 50, 53, 54]⟩))), (5, (.v (.string ⟨#[82, 83, 51, 56, 52]⟩))), (6, (.v (.string ⟨#[82, 83, 53, 49, 50]⟩))), (7, (.v (.string ⟨#[80, 83, 50, 53, 54]⟩))), (8, (.v (.string ⟨#[80, 83, 51, 56, 52]⟩))), (9, (.v (.string ⟨#[80, 83, 53, 49, 50]⟩))), (10, (.v (.string ⟨#[69, 83, 50, 53, 54]⟩))), (11, (.v (.string ⟨#[69, 83, 51, 56, 52]⟩))), (12, (.v (.string ⟨#[69, 100, 68, 83, 65]⟩)))]),
  oP 0 (.mv (.t 1))])
 (.canon [(0, none, .str, 9)] [0] .ret)))
theorem zap_chk : chk Tryd.prog 49 [] = some (zap_q.erase, [.tmp 0], 2) := by kernel_rfl
def zap_s : Option ((List ByteArray)) :=
 some [(⟨#[]⟩ : ByteArray), (⟨#[72, 83, 50, 53, 54]⟩ : ByteArray), (⟨#[72, 83, 51, 56, 52]⟩ : ByteArray), (⟨#[72, 83, 53, 49, 50]⟩ : ByteArray), (⟨#[82, 83, 50, 53, 54]⟩ : ByteArray), (⟨#[82, 83, 51, 56, 52]⟩ : ByteArray), (⟨#[82, 83, 53, 49, 50]⟩ : ByteArray), (⟨#[80, 83, 50, 53, 54]⟩ : ByteArray), (⟨#[80, 83, 51, 56, 52]⟩ : ByteArray), (⟨#[80, 83, 53, 49, 50]⟩ : ByteArray), (⟨#[69, 83, 50, 53, 54]⟩ : ByteArray), (⟨#[69, 83, 51, 56, 52]⟩ : ByteArray), (⟨#[69, 100, 68, 83, 65]⟩ : ByteArray)]
def zap_G : Nat → Option CQ := tblQ []
theorem zap_Gok : ∀ f C, zap_G f = some C → ValidQ Tryd.prog f C := fun f C h => by cases h
def zap_L : Nat → SubQ := tblL []
theorem zap_subs : subsOK zap_L zap_G 0 1 2 zap_q := subs_of (show AllSub zap_L zap_G 0 1 2 [] from trivial)
theorem zap_eq (R : Type) (k : SV → List SB → Option R) :
  fnQ zap_L zap_G 1 2 zap_q [.tmp 0] [] [] k = (zap_s).bind fun r => k (.c (.o (.own 0))) [.row .str 9 r] := by
 simp only [zap_s, -eq_self, bind_cond, bind_gd, Option.bind_assoc, obS, Sum.elim_inl, Sum.elim_inr, bind_elim]
 kernel_rfl
def zap_da := (dNil : Dec Unit (List SV))
def zap_db := (dNil : Dec Unit (List SB))
def zap_c : CS := fun args hp R k => (Dec.d zap_da args).bind fun x => (Dec.d zap_db hp).bind fun y => (zap_s).bind fun r => k (.c (.o (.own 0))) [.row .str 9 r]
theorem zap_val : ValidS Tryd.prog 49 zap_c :=
 val_ok zap_chk 1 zap_Gok zap_da zap_db 0 (fun x y R k => (zap_s).bind fun r => k (.c (.o (.own 0))) [.row .str 9 r]) (by kernel_rfl)
  (fun x y R k => by simp only [Option.bind_assoc, obS]) (fun x => Nat.le_of_ble_eq_true rfl) (fun y => rfl) zap_subs fun x y => zap_eq  _ _
def zap_w : CQ := liftQ [] zap_c
theorem zap_ok : ValidQ Tryd.prog 49 zap_w := liftQ_valid zap_val

/-! ### signet/signetref16.Name -/
def zao_q : IQ :=
 (.seq
 (.reg 2 none [
  oP 2 (.mv (.v (.string ⟨#[]⟩)))])
 (.seq
 (.seq
 (.reg 10 none [
  oP 3 (.mv (.t 0)),
  oP 4 (.bin false .lss (.t 3) (.v (.int .i64 0))),
  oP 5 (.mv (.t 4)),
  oG 6 (.mv (.t 0)) 5 false,
  oG 7 (.call 49 []) 5 false,
  oG 8 (.len (.t 7)) 5 false,
  oG 9 (.bin false .geq (.t 6) (.t 8)) 5 false,
  oP 10 (.pick (.t 5) (.v (.bool true)) (.t 9))])
 (.cond (.t 10)
  (.seq
  (.reg 2 none [
   oP 2 (.mv (.v (.string ⟨#[]⟩)))])
  (.canon [] [2] .ret))
  .skip))
 (.seq
 (.reg 2 none [
  oP 11 (.call 49 []),
  oP 12 (.mv (.t 0)),
  oP 13 (.iaddr 1 (.t 11) (.t 12)),
  oP 14 (.load none (.t 13)),
  oP 2 (.mv (.t 14))])
 (.canon [] [2] .ret))))
theorem zao_chk : chk Tryd.prog 33 [] = some (zao_q.erase, [.tmp 2], 15) := by kernel_rfl
def zao_s (a : Int) : Option ByteArray :=
 bif decide (a < (0 : Int)) then (
  some (⟨#[]⟩ : ByteArray))
 else (
  (zap_s).bind fun r1 =>
  bif decide ((r1.length : Int) ≤ a) then (
   some (⟨#[]⟩ : ByteArray))
  else (
   (zap_s).bind fun r2 =>
   gd (0 ≤ a ∧ a < r2.length) <|
   gd ((Int.toNat a) < r2.length) <|
   some (r2.getD (Int.toNat a) (ET.dft .str))))
def zao_G : Nat → Option CQ := tblQ [(49, zap_w)]
theorem zao_Gok : ∀ f C, zao_G f = some C → ValidQ Tryd.prog f C := tblQ_valid ⟨zap_ok, trivial⟩
def zao_L : Nat → SubQ := tblL []
theorem zao_subs : subsOK zao_L zao_G 0 3 15 zao_q := subs_of (show AllSub zao_L zao_G 0 3 15 [] from trivial)
theorem zao_eq (a : Int) (R : Type) (k : SV → List SB → Option R) :
  fnQ zao_L zao_G 3 15 zao_q [.tmp 2] [.c (.o (.val (.int .i64 a)))] [] k = (zao_s a).bind fun r => k (.c (.o (.val (.string r)))) [] := by
 simp only [zao_s, -eq_self, bind_cond, bind_gd, Option.bind_assoc, obS, Sum.elim_inl, Sum.elim_inr, bind_elim]
 kernel_rfl
def zao_da := (dCons (dVC (dCO (dI .i64))) dNil)
def zao_db := (dNil : Dec Unit (List SB))
def zao_c : CS := fun args hp R k => (Dec.d zao_da args).bind fun x => (Dec.d zao_db hp).bind fun y => (zao_s x.1).bind fun r => k (.c (.o (.val (.string r)))) []
theorem zao_val : ValidS Tryd.prog 33 zao_c :=
 val_ok zao_chk 3 zao_Gok zao_da zao_db 0 (fun x y R k => (zao_s x.1).bind fun r => k (.c (.o (.val (.string r)))) []) (by kernel_rfl)
  (fun x y R k => by simp only [Option.bind_assoc, obS]) (fun x => Nat.le_of_ble_eq_true rfl) (fun y => rfl) zao_subs fun x y => zao_eq x.1 _ _
def zao_w : CQ := liftV [] zao_c
theorem zao_ok : ValidQ Tryd.prog 33 zao_w := liftV_valid zao_val

/-! ### signet/signetref17.valid -/
def zar_q : IQ :=
 (.seq
 (.reg 2 none [
  oP 2 (.mv (.v (.bool false)))])
 (.seq
 (.reg 2 none [
  oP 3 (.mv (.t 0)),
  oP 4 (.build [.int .i64 0, .string ⟨#[]⟩, .string ⟨#[]⟩, .bool false, .int .i64 0, .int .i64 0] [(0, 1, (.v (.int .i64 5))), (2, 1, (.t 3))]),
  oP 5 (.bslice 36 6 1 [.int .i64 0, .string ⟨#[]⟩, .string ⟨#[]⟩, .bool false, .int .i64 0, .int .i64 0] [(0, (.t 4))]),
  oP 6 (.call 38 [(.t 5)]),
  oP 2 (.mv (.t 6))])
 (.canon [] [2] .ret)))
theorem zar_chk : chk Tryd.prog 34 [] = some (zar_q.erase, [.tmp 2], 7) := by kernel_rfl
def zar_s (s : ByteArray) : Option Bool :=
 (zbb_s [(⟨(5 : Int), (⟨#[]⟩ : ByteArray), s, false, (0 : Int), (0 : Int)⟩ : Eng.Node)]).bind fun r1 =>
 some r1
def zar_G : Nat → Option CQ := tblQ [(38, zbb_w)]
theorem zar_Gok : ∀ f C, zar_G f = some C → ValidQ Tryd.prog f C := tblQ_valid ⟨zbb_ok, trivial⟩
def zar_L : Nat → SubQ := tblL []
theorem zar_subs : subsOK zar_L zar_G 0 3 7 zar_q := subs_of (show AllSub zar_L zar_G 0 3 7 [] from trivial)
theorem zar_eq (s : ByteArray) (R : Type) (k : SV → List SB → Option R) :
  fnQ zar_L zar_G 3 7 zar_q [.tmp 2] [.c (.o (.val (.string s)))] [] k = (zar_s s).bind fun r => k (.c (.o (.val (.bool r)))) [] := by
 simp only [zar_s, -eq_self, bind_cond, bind_gd, Option.bind_assoc, obS, Sum.elim_inl, Sum.elim_inr, bind_elim]
 kernel_rfl
def zar_da := (dCons (dVC (dCO dS)) dNil)
def zar_db := (dNil : Dec Unit (List SB))
def zar_c : CS := fun args hp R k => (Dec.d zar_da args).bind fun x => (Dec.d zar_db hp).bind fun y => (zar_s x.1).bind fun r => k (.c (.o (.val (.bool r)))) []
theorem zar_val : ValidS Tryd.prog 34 zar_c :=
 val_ok zar_chk 3 zar_Gok zar_da zar_db 0 (fun x y R k => (zar_s x.1).bind fun r => k (.c (.o (.val (.bool r)))) []) (by kernel_rfl)
  (fun x y R k => by simp only [Option.bind_assoc, obS]) (fun x => Nat.le_of_ble_eq_true rfl) (fun y => rfl) zar_subs fun x y => zar_eq x.1 _ _
def zar_w : CQ := liftV [] zar_c
theorem zar_ok : ValidQ Tryd.prog 34 zar_w := liftV_valid zar_val

/-! ### signet/signetref3.Quoted -/
def zba_b1 : IQ :=
 (.join [] [0, 3, 4, 5]
 (.reg 5 none [
  oP 12 (.mv (.t 5)),
  oP 13 (.bin false .add (.t 12) (.v (.int .i64 1))),
  oP 5 (.mv (.t 13))]))
def zba_b0 : IQ :=
 (.loop [0, 3, 4, 5]
  (.seq
  (.seq
  (.reg 11 none [
   oP 8 (.mv (.t 5)),
   oP 9 (.mv (.t 0)),
   oP 10 (.lenS (.t 9)),
   oP 11 (.bin false .lss (.t 8) (.t 10))])
  (.cond (.t 11)
   .skip
   (.canon [] [4] (.exit 0))))
  (.seq
  (.block 1
   (.seq
   (.reg 6 none [
    oP 14 (.mv (.t 0)),
    oP 15 (.mv (.t 5)),
    oP 16 (.index (.t 14) (.t 15)),
    oP 17 (.conv false .i64 (.t 16)),
    oP 6 (.mv (.t 17))])
   (.block 2
    (.seq
    (.reg 24 none [
     oP 25 (.mv (.t 6)),
     oP 26 (.bin false .eql (.t 25) (.v (.int .i64 34))),
     oP 27 (.mv (.t 26)),
     oG 28 (.mv (.t 6)) 27 false,
     oG 29 (.bin false .eql (.t 28) (.v (.int .i64 92))) 27 false,
     oP 30 (.pick (.t 27) (.v (.bool true)) (.t 29)),
     oP 24 (.mv (.t 30))])
    (.cond (.t 24)
     (.reg 4 none [
      oP 31 (.mv (.t 4)),
      oP 32 (.mv (.t 0)),
      oP 33 (.mv (.t 5)),
      oP 34 (.index (.t 32) (.t 33)),
      oP 35 (.bslice 5 1 2 [.int .u8 0] [(0, (.v (.int .u8 92))), (1, (.t 34))]),
      oP 36 (.append 5 1 1 [.int .u8 0] (.t 31) (.t 35)),
      oP 4 (.mv (.t 36))])
     (.seq
     (.reg 37 none [
      oP 38 (.mv (.t 6)),
      oP 39 (.bin false .eql (.t 38) (.v (.int .i64 8))),
      oP 37 (.mv (.t 39))])
     (.cond (.t 37)
      (.reg 4 none [
       oP 40 (.mv (.t 4)),
       oP 41 (.bslice 5 1 2 [.int .u8 0] [(0, (.v (.int .u8 92))), (1, (.v (.int .u8 98)))]),
       oP 42 (.append 5 1 1 [.int .u8 0] (.t 40) (.t 41)),
       oP 4 (.mv (.t 42))])
      (.seq
      (.reg 43 none [
       oP 44 (.mv (.t 6)),
       oP 45 (.bin false .eql (.t 44) (.v (.int .i64 12))),
       oP 43 (.mv (.t 45))])
      (.cond (.t 43)
       (.reg 4 none [
        oP 46 (.mv (.t 4)),
        oP 47 (.bslice 5 1 2 [.int .u8 0] [(0, (.v (.int .u8 92))), (1, (.v (.int .u8 102)))]),
        oP 48 (.append 5 1 1 [.int .u8 0] (.t 46) (.t 47)),
        oP 4 (.mv (.t 48))])
       (.seq
       (.reg 49 none [
        oP 50 (.mv (.t 6)),
        oP 51 (.bin false .eql (.t 50) (.v (.int .i64 10))),
        oP 49 (.mv (.t 51))])
       (.cond (.t 49)
        (.reg 4 none [
         oP 52 (.mv (.t 4)),
         oP 53 (.bslice 5 1 2 [.int .u8 0] [(0, (.v (.int .u8 92))), (1, (.v (.int .u8 110)))]),
         oP 54 (.append 5 1 1 [.int .u8 0] (.t 52) (.t 53)),
         oP 4 (.mv (.t 54))])
        (.seq
        (.reg 55 none [
         oP 56 (.mv (.t 6)),
         oP 57 (.bin false .eql (.t 56) (.v (.int .i64 13))),
         oP 55 (.mv (.t 57))])
        (.cond (.t 55)
         (.reg 4 none [
          oP 58 (.mv (.t 4)),
          oP 59 (.bslice 5 1 2 [.int .u8 0] [(0, (.v (.int .u8 92))), (1, (.v (.int .u8 114)))]),
          oP 60 (.append 5 1 1 [.int .u8 0] (.t 58) (.t 59)),
          oP 4 (.mv (.t 60))])
         (.seq
         (.reg 61 none [
          oP 62 (.mv (.t 6)),
          oP 63 (.bin false .eql (.t 62) (.v (.int .i64 9))),
          oP 61 (.mv (.t 63))])
         (.cond (.t 61)
          (.reg 4 none [
           oP 64 (.mv (.t 4)),
           oP 65 (.bslice 5 1 2 [.int .u8 0] [(0, (.v (.int .u8 92))), (1, (.v (.int .u8 116)))]),
           oP 66 (.append 5 1 1 [.int .u8 0] (.t 64) (.t 65)),
           oP 4 (.mv (.t 66))])
          (.seq
          (.reg 67 none [
           oP 68 (.mv (.t 6)),
           oP 69 (.bin false .lss (.t 68) (.v (.int .i64 32))),
           oP 67 (.mv (.t 69))])
          (.cond (.t 67)
           (.reg 4 (some [0, 1, 2, 3, 4, 5, 6, 7, 8, 9, 10, 11]) [
            oP 70 (.mv (.t 4)),
            oP 71 (.mv (.t 3)),
            oP 72 (.mv (.t 6)),
            oP 73 (.bin false .quo (.t 72) (.v (.int .i64 16))),
            oP 74 (.index (.t 71) (.t 73)),
            oP 75 (.mv (.t 3)),
            oP 76 (.mv (.t 6)),
            oP 77 (.bin false .rem (.t 76) (.v (.int .i64 16))),
            oP 78 (.index (.t 75) (.t 77)),
            oP 79 (.bslice 5 1 6 [.int .u8 0] [(0, (.v (.int .u8 92))), (1, (.v (.int .u8 117))), (2, (.v (.int .u8 48))), (3, (.v (.int .u8 48))), (4, (.t 74)), (5, (.t 78))]),
            oP 80 (.append 5 1 1 [.int .u8 0] (.t 70) (.t 79)),
            oP 4 (.mv (.t 80))])
           (.reg 4 none [
            oP 18 (.mv (.t 4)),
            oP 19 (.mv (.t 0)),
            oP 20 (.mv (.t 5)),
            oP 21 (.index (.t 19) (.t 20)),
            oP 22 (.bslice 5 1 1 [.int .u8 0] [(0, (.t 21))]),
            oP 23 (.append 5 1 1 [.int .u8 0] (.t 18) (.t 22)),
            oP 4 (.mv (.t 23))]))))))))))))))))))
  (.canon [] [0, 3, 4, 5] (.sub 1 zba_b1)))))
def zba_q : IQ :=
 (.seq
 (.reg 2 none [
  oP 2 (.mv (.v (.string ⟨#[]⟩)))])
 (.seq
 (.reg 3 none [
  oP 3 (.mv (.v (.string ⟨#[48, 49, 50, 51, 52, 53, 54, 55, 56, 57, 97, 98, 99, 100, 101, 102]⟩)))])
 (.seq
 (.reg 4 none [
  oP 7 (.bslice 5 1 1 [.int .u8 0] [(0, (.v (.int .u8 34)))]),
  oP 4 (.mv (.t 7))])
 (.seq
 (.seq
 (.reg 5 none [
  oP 5 (.mv (.v (.int .i64 0)))])
 (.block 0
  (.canon [] [0, 3, 4, 5] (.sub 0 zba_b0))))
 (.seq
 (.reg 2 none [
  oP 81 (.mv (.t 4)),
  oP 82 (.bslice 5 1 1 [.int .u8 0] [(0, (.v (.int .u8 34)))]),
  oP 83 (.append 5 1 1 [.int .u8 0] (.t 81) (.t 82)),
  oP 84 (.ext .toStr [(.t 83)]),
  oP 2 (.mv (.t 84))])
 (.canon [] [2] .ret))))))
theorem zba_chk : chk Tryd.prog 68 [] = some (zba_q.erase, [.tmp 2], 85) := by kernel_rfl
def zba_p1 (i : Int) : Option Int :=
 gd (InI64 (i + (1 : Int))) <|
 some (i + (1 : Int))
def zba_p0_step (s : ByteArray) (hex : ByteArray) (i : Int) (b : List Int) : Option ((Int × (List Int)) ⊕ ((List Int))) :=
 bif decide (i < (s.size : Int)) then (
  gd (0 ≤ i ∧ i < s.size) <|
  gd (InI64 (bAt s i)) <|
  bif ((decide ((bAt s i) = (34 : Int))) || (decide ((bAt s i) = (92 : Int)))) then (
   gd (0 ≤ i ∧ i < s.size) <|
   gd (b.length + ([(92 : Int), (bAt s i)] : List Int).length ≤ 9223372036854775807 ∧ (b.length + ([(92 : Int), (bAt s i)] : List Int).length) * 1 ≤ 140737488355328) <|
   (zba_p1 i).bind fun o3 =>
   some (.inl (o3, (b ++ [(92 : Int), (bAt s i)]))))
  else (
   bif decide ((bAt s i) = (8 : Int)) then (
    gd (b.length + ([(92 : Int), (98 : Int)] : List Int).length ≤ 9223372036854775807 ∧ (b.length + ([(92 : Int), (98 : Int)] : List Int).length) * 1 ≤ 140737488355328) <|
    (zba_p1 i).bind fun o4 =>
    some (.inl (o4, (b ++ [(92 : Int), (98 : Int)]))))
   else (
    bif decide ((bAt s i) = (12 : Int)) then (
     gd (b.length + ([(92 : Int), (102 : Int)] : List Int).length ≤ 9223372036854775807 ∧ (b.length + ([(92 : Int), (102 : Int)] : List Int).length) * 1 ≤ 140737488355328) <|
     (zba_p1 i).bind fun o5 =>
     some (.inl (o5, (b ++ [(92 : Int), (102 : Int)]))))
    else (
     bif decide ((bAt s i) = (10 : Int)) then (
      gd (b.length + ([(92 : Int), (110 : Int)] : List Int).length ≤ 9223372036854775807 ∧ (b.length + ([(92 : Int), (110 : Int)] : List Int).length) * 1 ≤ 140737488355328) <|
      (zba_p1 i).bind fun o6 =>
      some (.inl (o6, (b ++ [(92 : Int), (110 : Int)]))))
     else (
      bif decide ((bAt s i) = (13 : Int)) then (
       gd (b.length + ([(92 : Int), (114 : Int)] : List Int).length ≤ 9223372036854775807 ∧ (b.length + ([(92 : Int), (114 : Int)] : List Int).length) * 1 ≤ 140737488355328) <|
       (zba_p1 i).bind fun o7 =>
       some (.inl (o7, (b ++ [(92 : Int), (114 : Int)]))))
      else (
       bif decide ((bAt s i) = (9 : Int)) then (
        gd (b.length + ([(92 : Int), (116 : Int)] : List Int).length ≤ 9223372036854775807 ∧ (b.length + ([(92 : Int), (116 : Int)] : List Int).length) * 1 ≤ 140737488355328) <|
        (zba_p1 i).bind fun o8 =>
        some (.inl (o8, (b ++ [(92 : Int), (116 : Int)]))))
       else (
        bif decide ((bAt s i) < (32 : Int)) then (
         gd (0 ≤ (bAt s i) ∧ (bAt s i) ≤ 9223372036854775807 ∧ 1 ≤ (16 : Int)) <|
         gd (0 ≤ ((bAt s i) / (16 : Int)) ∧ ((bAt s i) / (16 : Int)) < hex.size) <|
         gd (0 ≤ (bAt s i) ∧ 1 ≤ (16 : Int)) <|
         gd (0 ≤ ((bAt s i) % (16 : Int)) ∧ ((bAt s i) % (16 : Int)) < hex.size) <|
         gd (b.length + ([(92 : Int), (117 : Int), (48 : Int), (48 : Int), (bAt hex ((bAt s i) / (16 : Int))), (bAt hex ((bAt s i) % (16 : Int)))] : List Int).length ≤ 9223372036854775807 ∧ (b.length + ([(92 : Int), (117 : Int), (48 : Int), (48 : Int), (bAt hex ((bAt s i) / (16 : Int))), (bAt hex ((bAt s i) % (16 : Int)))] : List Int).length) * 1 ≤ 140737488355328) <|
         (zba_p1 i).bind fun o9 =>
         some (.inl (o9, (b ++ [(92 : Int), (117 : Int), (48 : Int), (48 : Int), (bAt hex ((bAt s i) / (16 : Int))), (bAt hex ((bAt s i) % (16 : Int)))]))))
        else (
         gd (0 ≤ i ∧ i < s.size) <|
         gd (b.length + ([(bAt s i)] : List Int).length ≤ 9223372036854775807 ∧ (b.length + ([(bAt s i)] : List Int).length) * 1 ≤ 140737488355328) <|
         (zba_p1 i).bind fun o10 =>
         some (.inl (o10, (b ++ [(bAt s i)])))))))))))
 else (
  some (.inr b))
def zba_p0 (s : ByteArray) (hex : ByteArray) (i : Int) (b : List Int) : Option ((List Int)) :=
 whileO (fun x : (Int × (List Int)) => zba_p0_step s hex x.1 x.2) (i, b)
def zba_s (s : ByteArray) : Option ByteArray :=
 (zba_p0 s (⟨#[48, 49, 50, 51, 52, 53, 54, 55, 56, 57, 97, 98, 99, 100, 101, 102]⟩ : ByteArray) (0 : Int) [(34 : Int)]).bind fun o11 =>
 gd (o11.length + ([(34 : Int)] : List Int).length ≤ 9223372036854775807 ∧ (o11.length + ([(34 : Int)] : List Int).length) * 1 ≤ 140737488355328) <|
 some (bytesI (o11 ++ [(34 : Int)]))
def zba_G : Nat → Option CQ := tblQ []
theorem zba_Gok : ∀ f C, zba_G f = some C → ValidQ Tryd.prog f C := fun f C h => by cases h
def zba_d1 := (dQS (dCons (dSl 0 (dVC (dCO dS))) (dCons (dSl 3 (dVC (dCO dS))) (dCons (dSl 4 (dVC (dCO (dO 0)))) (dCons (dSl 5 (dVC (dCO (dI .i64)))) dNil)))) (dCons (dRow .u8 5) dNil))
def zba_l1 : SubQ := fun S R kn kx kr => (Dec.d zba_d1 S).bind fun x => (zba_p1 x.1.2.2.2.1).bind fun r => kn ⟨[(0, [], .c (.o (.val (.string x.1.1)))), (3, [], .c (.o (.val (.string x.1.2.1)))), (4, [], .c (.o (.own 0))), (5, [], .c (.o (.val (.int .i64 r))))], [], [.row .u8 5 x.2.1]⟩
def zba_d0 := (dQS (dCons (dSl 0 (dVC (dCO dS))) (dCons (dSl 3 (dVC (dCO dS))) (dCons (dSl 4 (dVC (dCO (dO 0)))) (dCons (dSl 5 (dVC (dCO (dI .i64)))) dNil)))) (dCons (dRow .u8 5) dNil))
def zba_l0 : SubQ := fun S R kn kx kr => (Dec.d zba_d0 S).bind fun x => (zba_p0 x.1.1 x.1.2.1 x.1.2.2.2.1 x.2.1).bind fun r => kx 0 ⟨[(4, [], .c (.o (.own 0)))], [], [.row .u8 5 r]⟩
def zba_L : Nat → SubQ := tblL [(1, zba_l1), (0, zba_l0)]
theorem zba_p1_eq (s : ByteArray) (hex : ByteArray) (i : Int) (b : List Int) (R : Type) (kn : QS → Option R) (kx : Nat → QS → Option R) (kr : QS → Option R) :
  interpQ zba_L zba_G 0 7 85 zba_b1 ⟨[(0, [], .c (.o (.val (.string s)))), (3, [], .c (.o (.val (.string hex)))), (4, [], .c (.o (.own 0))), (5, [], .c (.o (.val (.int .i64 i))))], [], [.row .u8 5 b]⟩ kn kx kr = (zba_p1 i).bind fun r => kn ⟨[(0, [], .c (.o (.val (.string s)))), (3, [], .c (.o (.val (.string hex)))), (4, [], .c (.o (.own 0))), (5, [], .c (.o (.val (.int .i64 r))))], [], [.row .u8 5 b]⟩ := by
 simp only [zba_p1, -eq_self, bind_cond, bind_gd, Option.bind_assoc, obS, Sum.elim_inl, Sum.elim_inr, bind_elim]
 kernel_rfl
theorem zba_sub1 : SubOK zba_L zba_G 0 7 85 1 zba_b1 := sub_ok' zba_d1 (fun x R kn kx kr => (zba_p1 x.1.2.2.2.1).bind fun r => kn ⟨[(0, [], .c (.o (.val (.string x.1.1)))), (3, [], .c (.o (.val (.string x.1.2.1)))), (4, [], .c (.o (.own 0))), (5, [], .c (.o (.val (.int .i64 r))))], [], [.row .u8 5 x.2.1]⟩) (by kernel_rfl) fun x R kn kx kr => zba_p1_eq x.1.1 x.1.2.1 x.1.2.2.2.1 x.2.1 R kn kx kr
theorem zba_p0_eq (s : ByteArray) (hex : ByteArray) (i : Int) (b : List Int) (R : Type) (kn : QS → Option R) (kx : Nat → QS → Option R) (kr : QS → Option R) :
  interpQ zba_L zba_G 0 7 85 zba_b0 ⟨[(0, [], .c (.o (.val (.string s)))), (3, [], .c (.o (.val (.string hex)))), (4, [], .c (.o (.own 0))), (5, [], .c (.o (.val (.int .i64 i))))], [], [.row .u8 5 b]⟩ kn kx kr = (zba_p0 s hex i b).bind fun r => kx 0 ⟨[(4, [], .c (.o (.own 0)))], [], [.row .u8 5 r]⟩ := by
 refine loop_piece (step := fun x => zba_p0_step s hex x.1 x.2) (enc := fun x => ⟨[(0, [], .c (.o (.val (.string s)))), (3, [], .c (.o (.val (.string hex)))), (4, [], .c (.o (.own 0))), (5, [], .c (.o (.val (.int .i64 x.1))))], [], [.row .u8 5 x.2]⟩) (ko := fun r => kx 0 ⟨[(4, [], .c (.o (.own 0)))], [], [.row .u8 5 r]⟩) ?_ ?_ (i, b)
 ·intro x; kernel_rfl
 ·intro x ki; simp only [zba_p0_step, -eq_self, bind_cond, bind_gd, Option.bind_assoc, obS, Sum.elim_inl, Sum.elim_inr, bind_elim]; kernel_rfl
theorem zba_sub0 : SubOK zba_L zba_G 0 7 85 0 zba_b0 := sub_ok' zba_d0 (fun x R kn kx kr => (zba_p0 x.1.1 x.1.2.1 x.1.2.2.2.1 x.2.1).bind fun r => kx 0 ⟨[(4, [], .c (.o (.own 0)))], [], [.row .u8 5 r]⟩) (by kernel_rfl) fun x R kn kx kr => zba_p0_eq x.1.1 x.1.2.1 x.1.2.2.2.1 x.2.1 R kn kx kr
theorem zba_subs : subsOK zba_L zba_G 0 7 85 zba_q := subs_of (show AllSub zba_L zba_G 0 7 85 [(0, zba_b0), (1, zba_b1)] from ⟨zba_sub0, zba_sub1, trivial⟩)
theorem zba_eq (s : ByteArray) (R : Type) (k : SV → List SB → Option R) :
  fnQ zba_L zba_G 7 85 zba_q [.tmp 2] [.c (.o (.val (.string s)))] [] k = (zba_s s).bind fun r => k (.c (.o (.val (.string r)))) [] := by
 simp only [zba_s, -eq_self, bind_cond, bind_gd, Option.bind_assoc, obS, Sum.elim_inl, Sum.elim_inr, bind_elim]
 kernel_rfl
def zba_da := (dCons (dVC (dCO dS)) dNil)
def zba_db := (dNil : Dec Unit (List SB))
def zba_c : CS := fun args hp R k => (Dec.d zba_da args).bind fun x => (Dec.d zba_db hp).bind fun y => (zba_s x.1).bind fun r => k (.c (.o (.val (.string r)))) []
theorem zba_val : ValidS Tryd.prog 68 zba_c :=
 val_ok zba_chk 7 zba_Gok zba_da zba_db 0 (fun x y R k => (zba_s x.1).bind fun r => k (.c (.o (.val (.string r)))) []) (by kernel_rfl)
  (fun x y R k => by simp only [Option.bind_assoc, obS]) (fun x => Nat.le_of_ble_eq_true rfl) (fun y => rfl) zba_subs fun x y => zba_eq x.1 _ _
def zba_w : CQ := liftV [] zba_c
theorem zba_ok : ValidQ Tryd.prog 68 zba_w := liftV_valid zba_val

/-! ### a group that calls itself: signet/signetref3.print -/
def zbh_da := (dCons (dVC (dCO (dO 0))) (dCons (dVC (dCO (dI .i64))) dNil))
def zbh_db := (dCons (dView .node) dNil)
def zbh_cs (self : (List Eng.Node) → Int → Option ByteArray) : CS := fun args hp R k => (Dec.d zbh_da args).bind fun x => (Dec.d zbh_db hp).bind fun y => (self y.1 x.2.1).bind fun r => k (.c (.o (.val (.string r)))) [.view .node y.1]
def zbh_ws (self : (List Eng.Node) → Int → Option ByteArray) : CQ := prepQ [(0, none, some (.node, 36))] (liftV [false] (zbh_cs self))

/-! ### signet/signetref3.print -/
def zbh_b2 : IQ :=
 (.join [] [0, 5, 6, 7, 8]
 (.seq
 (.reg 10 none [
  oP 61 (.mv (.t 0)),
  oP 62 (.mv (.t 7)),
  oP 63 (.mv (.t 8)),
  oP 64 (.iaddr 1 (.t 62) (.t 63)),
  oP 65 (.load none (.t 64)),
  oP 66 (.call 50 [(.t 61), (.t 65)]),
  oP 10 (.mv (.t 66))])
 (.reg 6 none [
  oP 67 (.mv (.t 6)),
  oP 68 (.mv (.t 10)),
  oP 69 (.bin false .add (.t 67) (.t 68)),
  oP 6 (.mv (.t 69))])))
def zbh_b1 : IQ :=
 (.join [] [0, 5, 6, 7, 8]
 (.seq
 (.seq
 (.reg 47 none [
  oP 45 (.faddr 0 (.t 5)),
  oP 46 (.load none (.t 45)),
  oP 47 (.bin false .eql (.t 46) (.v (.int .i64 7)))])
 (.cond (.t 47)
  (.seq
  (.reg 9 none [
   oP 48 (.mv (.t 0)),
   oP 49 (.mv (.t 7)),
   oP 50 (.mv (.t 8)),
   oP 51 (.iaddr 1 (.t 49) (.t 50)),
   oP 52 (.load none (.t 51)),
   oP 53 (.iaddr 6 (.t 48) (.t 52)),
   oP 54 (.faddr 1 (.t 53)),
   oP 55 (.load none (.t 54)),
   oP 56 (.call 68 [(.t 55)]),
   oP 9 (.mv (.t 56))])
  (.reg 6 none [
   oP 57 (.mv (.t 6)),
   oP 58 (.mv (.t 9)),
   oP 59 (.bin false .add (.t 57) (.t 58)),
   oP 60 (.bin false .add (.t 59) (.v (.string ⟨#[58]⟩))),
   oP 6 (.mv (.t 60))]))
  .skip))
 (.canon [] [0, 5, 6, 7, 8] (.sub 2 zbh_b2))))
def zbh_b0 : IQ :=
 (.loop [0, 5, 6, 7, 8]
  (.seq
  (.seq
  (.reg 38 none [
   oP 35 (.mv (.t 8)),
   oP 36 (.mv (.t 7)),
   oP 37 (.len (.t 36)),
   oP 38 (.bin false .lss (.t 35) (.t 37))])
  (.cond (.t 38)
   .skip
   (.canon [] [5, 6] (.exit 1))))
  (.seq
  (.block 2
   (.seq
   (.seq
   (.reg 42 none [
    oP 41 (.mv (.t 8)),
    oP 42 (.bin false .gtr (.t 41) (.v (.int .i64 0)))])
   (.cond (.t 42)
    (.reg 6 none [
     oP 43 (.mv (.t 6)),
     oP 44 (.bin false .add (.t 43) (.v (.string ⟨#[44]⟩))),
     oP 6 (.mv (.t 44))])
    .skip))
   (.canon [] [0, 5, 6, 7, 8] (.sub 1 zbh_b1))))
  (.reg 8 none [
   oP 39 (.mv (.t 8)),
   oP 40 (.bin false .add (.t 39) (.v (.int .i64 1))),
   oP 8 (.mv (.t 40))]))))
def zbh_q : IQ :=
 (.seq
 (.reg 4 none [
  oP 4 (.mv (.v (.string ⟨#[]⟩)))])
 (.seq
 (.reg 0 none [
  oP 11 (.mv (.t 0)),
  oP 12 (.mv (.t 1)),
  oP 13 (.iaddr 6 (.t 11) (.t 12)),
  oP 14 (.load (some 6) (.t 13)),
  oP 5 (.alloc 36 [.int .i64 0, .string ⟨#[]⟩, .string ⟨#[]⟩, .bool false, .int .i64 0, .int .i64 0]),
  ⟨none, .store 6 (.t 5) (.t 14), none⟩])
 (.seq
 (.seq
 (.reg 16 none [
  oP 15 (.faddr 0 (.t 5)),
  oP 16 (.load none (.t 15))])
 (.block 0
  (.seq
  (.reg 17 none [
   oP 18 (.bin false .eql (.t 16) (.v (.int .i64 1))),
   oP 17 (.mv (.t 18))])
  (.cond (.t 17)
   (.seq
   (.reg 4 none [
    oP 4 (.mv (.v (.string ⟨#[110, 117, 108, 108]⟩)))])
   (.canon [] [4] .ret))
   (.seq
   (.reg 19 none [
    oP 20 (.bin false .eql (.t 16) (.v (.int .i64 2))),
    oP 19 (.mv (.t 20))])
   (.cond (.t 19)
    (.seq
    (.reg 4 none [
     oP 4 (.mv (.v (.string ⟨#[102, 97, 108, 115, 101]⟩)))])
    (.canon [] [4] .ret))
    (.seq
    (.reg 21 none [
     oP 22 (.bin false .eql (.t 16) (.v (.int .i64 3))),
     oP 21 (.mv (.t 22))])
    (.cond (.t 21)
     (.seq
     (.reg 4 none [
      oP 4 (.mv (.v (.string ⟨#[116, 114, 117, 101]⟩)))])
     (.canon [] [4] .ret))
     (.seq
     (.reg 23 none [
      oP 24 (.bin false .eql (.t 16) (.v (.int .i64 4))),
      oP 23 (.mv (.t 24))])
     (.cond (.t 23)
      (.seq
      (.reg 4 none [
       oP 25 (.faddr 2 (.t 5)),
       oP 26 (.load none (.t 25)),
       oP 4 (.mv (.t 26))])
      (.canon [] [4] .ret))
      (.seq
      (.reg 27 none [
       oP 28 (.bin false .eql (.t 16) (.v (.int .i64 5))),
       oP 27 (.mv (.t 28))])
      (.cond (.t 27)
       (.seq
       (.reg 4 none [
        oP 29 (.faddr 2 (.t 5)),
        oP 30 (.load none (.t 29)),
        oP 31 (.call 68 [(.t 30)]),
        oP 4 (.mv (.t 31))])
       (.canon [] [4] .ret))
       .skip))))))))))))
 (.seq
 (.reg 6 none [
  oP 6 (.mv (.v (.string ⟨#[]⟩)))])
 (.seq
 (.reg 7 none [
  oP 32 (.mv (.t 0)),
  oP 33 (.mv (.t 1)),
  oP 34 (.call 24 [(.t 32), (.t 33)]),
  oP 7 (.mv (.t 34))])
 (.seq
 (.seq
 (.reg 8 none [
  oP 8 (.mv (.v (.int .i64 0)))])
 (.block 1
  (.canon [] [0, 5, 6, 7, 8] (.sub 0 zbh_b0))))
 (.seq
 (.seq
 (.reg 72 none [
  oP 70 (.faddr 0 (.t 5)),
  oP 71 (.load none (.t 70)),
  oP 72 (.bin false .eql (.t 71) (.v (.int .i64 7)))])
 (.cond (.t 72)
  (.seq
  (.reg 4 none [
   oP 73 (.mv (.t 6)),
   oP 74 (.bin false .add (.v (.string ⟨#[123]⟩)) (.t 73)),
   oP 75 (.bin false .add (.t 74) (.v (.string ⟨#[125]⟩))),
   oP 4 (.mv (.t 75))])
  (.canon [] [4] .ret))
  .skip))
 (.seq
 (.reg 4 none [
  oP 76 (.mv (.t 6)),
  oP 77 (.bin false .add (.v (.string ⟨#[91]⟩)) (.t 76)),
  oP 78 (.bin false .add (.t 77) (.v (.string ⟨#[93]⟩))),
  oP 4 (.mv (.t 78))])
 (.canon [] [4] .ret)))))))))
theorem zbh_chk : chk Tryd.prog 50 [] = some (zbh_q.erase, [.tmp 4], 79) := by kernel_rfl
def zbh_p2 (self : (List Eng.Node) → Int → Option ByteArray) (s : ByteArray) (i : Int) (v : List Eng.Node) (l : List Int) : Option ByteArray :=
 gd (0 ≤ i ∧ i < l.length) <|
 gd ((Int.toNat i) < l.length) <|
 (self v (l.getD (Int.toNat i) (ET.dft .i64))).bind fun r18 =>
 gd (s.size + r18.size ≤ 9223372036854775807) <|
 some (s ++ r18)
def zbh_p1 (self : (List Eng.Node) → Int → Option ByteArray) (s : ByteArray) (i : Int) (v : List Eng.Node) (n_Kind : Int) (l : List Int) : Option ByteArray :=
 bif decide (n_Kind = (7 : Int)) then (
  gd (0 ≤ i ∧ i < l.length) <|
  gd ((Int.toNat i) < l.length) <|
  gd (0 ≤ (l.getD (Int.toNat i) (ET.dft .i64)) ∧ (l.getD (Int.toNat i) (ET.dft .i64)) < v.length) <|
  gd ((Int.toNat (l.getD (Int.toNat i) (ET.dft .i64))) < v.length) <|
  gd ((Int.toNat (l.getD (Int.toNat i) (ET.dft .i64))) < v.length) <|
  (zba_s ((v.getD (Int.toNat (l.getD (Int.toNat i) (ET.dft .i64))) (ET.dft .node)).key)).bind fun r17 =>
  gd (s.size + r17.size ≤ 9223372036854775807) <|
  gd ((s ++ r17).size + (⟨#[58]⟩ : ByteArray).size ≤ 9223372036854775807) <|
  (zbh_p2 self ((s ++ r17) ++ (⟨#[58]⟩ : ByteArray)) i v l).bind fun o19 =>
  some o19)
 else (
  (zbh_p2 self s i v l).bind fun o20 =>
  some o20)
def zbh_p0_step (self : (List Eng.Node) → Int → Option ByteArray) (s : ByteArray) (i : Int) (v : List Eng.Node) (n_Kind : Int) (l : List Int) : Option ((ByteArray × Int) ⊕ ByteArray) :=
 bif decide (i < (l.length : Int)) then (
  bif decide ((0 : Int) < i) then (
   gd (s.size + (⟨#[44]⟩ : ByteArray).size ≤ 9223372036854775807) <|
   (zbh_p1 self (s ++ (⟨#[44]⟩ : ByteArray)) i v n_Kind l).bind fun o21 =>
   gd (InI64 (i + (1 : Int))) <|
   some (.inl (o21, (i + (1 : Int)))))
  else (
   (zbh_p1 self s i v n_Kind l).bind fun o22 =>
   gd (InI64 (i + (1 : Int))) <|
   some (.inl (o22, (i + (1 : Int))))))
 else (
  some (.inr s))
def zbh_p0 (self : (List Eng.Node) → Int → Option ByteArray) (s : ByteArray) (i : Int) (v : List Eng.Node) (n_Kind : Int) (l : List Int) : Option ByteArray :=
 whileO (fun x : (ByteArray × Int) => zbh_p0_step self x.1 x.2 v n_Kind l) (s, i)
def zbh_t (self : (List Eng.Node) → Int → Option ByteArray) (v : (List Eng.Node)) (at_ : Int) : Option ByteArray :=
 gd (0 ≤ at_ ∧ at_ < v.length) <|
 gd ((Int.toNat at_) < v.length) <|
 bif decide (((v.getD (Int.toNat at_) (ET.dft .node)).kind) = (1 : Int)) then (
  some (⟨#[110, 117, 108, 108]⟩ : ByteArray))
 else (
  bif decide (((v.getD (Int.toNat at_) (ET.dft .node)).kind) = (2 : Int)) then (
   some (⟨#[102, 97, 108, 115, 101]⟩ : ByteArray))
  else (
   bif decide (((v.getD (Int.toNat at_) (ET.dft .node)).kind) = (3 : Int)) then (
    some (⟨#[116, 114, 117, 101]⟩ : ByteArray))
   else (
    bif decide (((v.getD (Int.toNat at_) (ET.dft .node)).kind) = (4 : Int)) then (
     some ((v.getD (Int.toNat at_) (ET.dft .node)).text))
    else (
     bif decide (((v.getD (Int.toNat at_) (ET.dft .node)).kind) = (5 : Int)) then (
      (zba_s ((v.getD (Int.toNat at_) (ET.dft .node)).text)).bind fun r15 =>
      some r15)
     else (
      (zay_s v at_).bind fun r16 =>
      (zbh_p0 self (⟨#[]⟩ : ByteArray) (0 : Int) v ((v.getD (Int.toNat at_) (ET.dft .node)).kind) r16).bind fun o23 =>
      bif decide (((v.getD (Int.toNat at_) (ET.dft .node)).kind) = (7 : Int)) then (
       gd ((⟨#[123]⟩ : ByteArray).size + o23.size ≤ 9223372036854775807) <|
       gd (((⟨#[123]⟩ : ByteArray) ++ o23).size + (⟨#[125]⟩ : ByteArray).size ≤ 9223372036854775807) <|
       some (((⟨#[123]⟩ : ByteArray) ++ o23) ++ (⟨#[125]⟩ : ByteArray)))
      else (
       gd ((⟨#[91]⟩ : ByteArray).size + o23.size ≤ 9223372036854775807) <|
       gd (((⟨#[91]⟩ : ByteArray) ++ o23).size + (⟨#[93]⟩ : ByteArray).size ≤ 9223372036854775807) <|
       some (((⟨#[91]⟩ : ByteArray) ++ o23) ++ (⟨#[93]⟩ : ByteArray))))))))
def zbh_G (self : (List Eng.Node) → Int → Option ByteArray) : Nat → Option CQ := tblQ [(68, zba_w), (24, zay_w), (50, zbh_ws self)]
theorem zbh_Gok (self : (List Eng.Node) → Int → Option ByteArray) (hself : ValidQ Tryd.prog 50 (zbh_ws self)) : ∀ f C, (zbh_G self) f = some C → ValidQ Tryd.prog f C := tblQ_valid ⟨zba_ok, zay_ok, hself, trivial⟩
def zbh_d2 := (dQS (dCons (dSl 0 (dVC (dCO (dO 0)))) (dCons (dSl 5 (dVC (dCO (dH 1 0)))) (dCons (dSl 6 (dVC (dCO dS))) (dCons (dSl 7 (dVC (dCO (dO 2)))) (dCons (dSl 8 (dVC (dCO (dI .i64)))) dNil))))) (dCons (dView .node) (dCons (dCells 36 (dCons (dI .i64) (dCons dS (dCons dS (dCons dB (dCons (dI .i64) (dCons (dI .i64) dNil))))))) (dCons (dRow .i64 3) dNil))))
def zbh_l2 (self : (List Eng.Node) → Int → Option ByteArray) : SubQ := fun S R kn kx kr => (Dec.d zbh_d2 S).bind fun x => (zbh_p2 self x.1.2.2.1 x.1.2.2.2.2.1 x.2.1 x.2.2.2.1).bind fun r => kn ⟨[(0, [], .c (.o (.own 0))), (5, [], .c (.o (.hd 1 0))), (6, [], .c (.o (.val (.string r)))), (7, [], .c (.o (.own 2))), (8, [], .c (.o (.val (.int .i64 x.1.2.2.2.2.1))))], [], [.view .node x.2.1, .cells 36 [.val (.int .i64 x.2.2.1.1), .val (.string x.2.2.1.2.1), .val (.string x.2.2.1.2.2.1), .val (.bool x.2.2.1.2.2.2.1), .val (.int .i64 x.2.2.1.2.2.2.2.1), .val (.int .i64 x.2.2.1.2.2.2.2.2.1)], .row .i64 3 x.2.2.2.1]⟩
def zbh_d1 := (dQS (dCons (dSl 0 (dVC (dCO (dO 0)))) (dCons (dSl 5 (dVC (dCO (dH 1 0)))) (dCons (dSl 6 (dVC (dCO dS))) (dCons (dSl 7 (dVC (dCO (dO 2)))) (dCons (dSl 8 (dVC (dCO (dI .i64)))) dNil))))) (dCons (dView .node) (dCons (dCells 36 (dCons (dI .i64) (dCons dS (dCons dS (dCons dB (dCons (dI .i64) (dCons (dI .i64) dNil))))))) (dCons (dRow .i64 3) dNil))))
def zbh_l1 (self : (List Eng.Node) → Int → Option ByteArray) : SubQ := fun S R kn kx kr => (Dec.d zbh_d1 S).bind fun x => (zbh_p1 self x.1.2.2.1 x.1.2.2.2.2.1 x.2.1 x.2.2.1.1 x.2.2.2.1).bind fun r => kn ⟨[(0, [], .c (.o (.own 0))), (5, [], .c (.o (.hd 1 0))), (6, [], .c (.o (.val (.string r)))), (7, [], .c (.o (.own 2))), (8, [], .c (.o (.val (.int .i64 x.1.2.2.2.2.1))))], [], [.view .node x.2.1, .cells 36 [.val (.int .i64 x.2.2.1.1), .val (.string x.2.2.1.2.1), .val (.string x.2.2.1.2.2.1), .val (.bool x.2.2.1.2.2.2.1), .val (.int .i64 x.2.2.1.2.2.2.2.1), .val (.int .i64 x.2.2.1.2.2.2.2.2.1)], .row .i64 3 x.2.2.2.1]⟩
def zbh_d0 := (dQS (dCons (dSl 0 (dVC (dCO (dO 0)))) (dCons (dSl 5 (dVC (dCO (dH 1 0)))) (dCons (dSl 6 (dVC (dCO dS))) (dCons (dSl 7 (dVC (dCO (dO 2)))) (dCons (dSl 8 (dVC (dCO (dI .i64)))) dNil))))) (dCons (dView .node) (dCons (dCells 36 (dCons (dI .i64) (dCons dS (dCons dS (dCons dB (dCons (dI .i64) (dCons (dI .i64) dNil))))))) (dCons (dRow .i64 3) dNil))))
def zbh_l0 (self : (List Eng.Node) → Int → Option ByteArray) : SubQ := fun S R kn kx kr => (Dec.d zbh_d0 S).bind fun x => (zbh_p0 self x.1.2.2.1 x.1.2.2.2.2.1 x.2.1 x.2.2.1.1 x.2.2.2.1).bind fun r => kx 1 ⟨[(5, [], .c (.o (.hd 1 0))), (6, [], .c (.o (.val (.string r))))], [], [.view .node x.2.1, .cells 36 [.val (.int .i64 x.2.2.1.1), .val (.string x.2.2.1.2.1), .val (.string x.2.2.1.2.2.1), .val (.bool x.2.2.1.2.2.2.1), .val (.int .i64 x.2.2.1.2.2.2.2.1), .val (.int .i64 x.2.2.1.2.2.2.2.2.1)]]⟩
def zbh_L (self : (List Eng.Node) → Int → Option ByteArray) : Nat → SubQ := tblL [(2, zbh_l2 self), (1, zbh_l1 self), (0, zbh_l0 self)]
theorem zbh_p2_eq (self : (List Eng.Node) → Int → Option ByteArray) (s : ByteArray) (i : Int) (v : List Eng.Node) (n_Kind : Int) (n_Key : ByteArray) (n_Text : ByteArray) (n_Whole : Bool) (n_Int : Int) (n_Kids : Int) (l : List Int) (R : Type) (kn : QS → Option R) (kx : Nat → QS → Option R) (kr : QS → Option R) :
  interpQ (zbh_L self) (zbh_G self) 1 17 79 zbh_b2 ⟨[(0, [], .c (.o (.own 0))), (5, [], .c (.o (.hd 1 0))), (6, [], .c (.o (.val (.string s)))), (7, [], .c (.o (.own 2))), (8, [], .c (.o (.val (.int .i64 i))))], [], [.view .node v, .cells 36 [.val (.int .i64 n_Kind), .val (.string n_Key), .val (.string n_Text), .val (.bool n_Whole), .val (.int .i64 n_Int), .val (.int .i64 n_Kids)], .row .i64 3 l]⟩ kn kx kr = (zbh_p2 self s i v l).bind fun r => kn ⟨[(0, [], .c (.o (.own 0))), (5, [], .c (.o (.hd 1 0))), (6, [], .c (.o (.val (.string r)))), (7, [], .c (.o (.own 2))), (8, [], .c (.o (.val (.int .i64 i))))], [], [.view .node v, .cells 36 [.val (.int .i64 n_Kind), .val (.string n_Key), .val (.string n_Text), .val (.bool n_Whole), .val (.int .i64 n_Int), .val (.int .i64 n_Kids)], .row .i64 3 l]⟩ := by
 simp only [zbh_p2, -eq_self, bind_cond, bind_gd, Option.bind_assoc, obS, Sum.elim_inl, Sum.elim_inr, bind_elim]
 kernel_rfl
theorem zbh_sub2 (self : (List Eng.Node) → Int → Option ByteArray) : SubOK (zbh_L self) (zbh_G self) 1 17 79 2 zbh_b2 := sub_ok' zbh_d2 (fun x R kn kx kr => (zbh_p2 self x.1.2.2.1 x.1.2.2.2.2.1 x.2.1 x.2.2.2.1).bind fun r => kn ⟨[(0, [], .c (.o (.own 0))), (5, [], .c (.o (.hd 1 0))), (6, [], .c (.o (.val (.string r)))), (7, [], .c (.o (.own 2))), (8, [], .c (.o (.val (.int .i64 x.1.2.2.2.2.1))))], [], [.view .node x.2.1, .cells 36 [.val (.int .i64 x.2.2.1.1), .val (.string x.2.2.1.2.1), .val (.string x.2.2.1.2.2.1), .val (.bool x.2.2.1.2.2.2.1), .val (.int .i64 x.2.2.1.2.2.2.2.1), .val (.int .i64 x.2.2.1.2.2.2.2.2.1)], .row .i64 3 x.2.2.2.1]⟩) (by kernel_rfl) fun x R kn kx kr => zbh_p2_eq self x.1.2.2.1 x.1.2.2.2.2.1 x.2.1 x.2.2.1.1 x.2.2.1.2.1 x.2.2.1.2.2.1 x.2.2.1.2.2.2.1 x.2.2.1.2.2.2.2.1 x.2.2.1.2.2.2.2.2.1 x.2.2.2.1 R kn kx kr
theorem zbh_p1_eq (self : (List Eng.Node) → Int → Option ByteArray) (s : ByteArray) (i : Int) (v : List Eng.Node) (n_Kind : Int) (n_Key : ByteArray) (n_Text : ByteArray) (n_Whole : Bool) (n_Int : Int) (n_Kids : Int) (l : List Int) (R : Type) (kn : QS → Option R) (kx : Nat → QS → Option R) (kr : QS → Option R) :
  interpQ (zbh_L self) (zbh_G self) 1 17 79 zbh_b1 ⟨[(0, [], .c (.o (.own 0))), (5, [], .c (.o (.hd 1 0))), (6, [], .c (.o (.val (.string s)))), (7, [], .c (.o (.own 2))), (8, [], .c (.o (.val (.int .i64 i))))], [], [.view .node v, .cells 36 [.val (.int .i64 n_Kind), .val (.string n_Key), .val (.string n_Text), .val (.bool n_Whole), .val (.int .i64 n_Int), .val (.int .i64 n_Kids)], .row .i64 3 l]⟩ kn kx kr = (zbh_p1 self s i v n_Kind l).bind fun r => kn ⟨[(0, [], .c (.o (.own 0))), (5, [], .c (.o (.hd 1 0))), (6, [], .c (.o (.val (.string r)))), (7, [], .c (.o (.own 2))), (8, [], .c (.o (.val (.int .i64 i))))], [], [.view .node v, .cells 36 [.val (.int .i64 n_Kind), .val (.string n_Key), .val (.string n_Text), .val (.bool n_Whole), .val (.int .i64 n_Int), .val (.int .i64 n_Kids)], .row .i64 3 l]⟩ := by
 simp only [zbh_p1, -eq_self, bind_cond, bind_gd, Option.bind_assoc, obS, Sum.elim_inl, Sum.elim_inr, bind_elim]
 kernel_rfl
theorem zbh_sub1 (self : (List Eng.Node) → Int → Option ByteArray) : SubOK (zbh_L self) (zbh_G self) 1 17 79 1 zbh_b1 := sub_ok' zbh_d1 (fun x R kn kx kr => (zbh_p1 self x.1.2.2.1 x.1.2.2.2.2.1 x.2.1 x.2.2.1.1 x.2.2.2.1).bind fun r => kn ⟨[(0, [], .c (.o (.own 0))), (5, [], .c (.o (.hd 1 0))), (6, [], .c (.o (.val (.string r)))), (7, [], .c (.o (.own 2))), (8, [], .c (.o (.val (.int .i64 x.1.2.2.2.2.1))))], [], [.view .node x.2.1, .cells 36 [.val (.int .i64 x.2.2.1.1), .val (.string x.2.2.1.2.1), .val (.string x.2.2.1.2.2.1), .val (.bool x.2.2.1.2.2.2.1), .val (.int .i64 x.2.2.1.2.2.2.2.1), .val (.int .i64 x.2.2.1.2.2.2.2.2.1)], .row .i64 3 x.2.2.2.1]⟩) (by kernel_rfl) fun x R kn kx kr => zbh_p1_eq self x.1.2.2.1 x.1.2.2.2.2.1 x.2.1 x.2.2.1.1 x.2.2.1.2.1 x.2.2.1.2.2.1 x.2.2.1.2.2.2.1 x.2.2.1.2.2.2.2.1 x.2.2.1.2.2.2.2.2.1 x.2.2.2.1 R kn kx kr
theorem zbh_p0_eq (self : (List Eng.Node) → Int → Option ByteArray) (s : ByteArray) (i : Int) (v : List Eng.Node) (n_Kind : Int) (n_Key : ByteArray) (n_Text : ByteArray) (n_Whole : Bool) (n_Int : Int) (n_Kids : Int) (l : List Int) (R : Type) (kn : QS → Option R) (kx : Nat → QS → Option R) (kr : QS → Option R) :
  interpQ (zbh_L self) (zbh_G self) 1 17 79 zbh_b0 ⟨[(0, [], .c (.o (.own 0))), (5, [], .c (.o (.hd 1 0))), (6, [], .c (.o (.val (.string s)))), (7, [], .c (.o (.own 2))), (8, [], .c (.o (.val (.int .i64 i))))], [], [.view .node v, .cells 36 [.val (.int .i64 n_Kind), .val (.string n_Key), .val (.string n_Text), .val (.bool n_Whole), .val (.int .i64 n_Int), .val (.int .i64 n_Kids)], .row .i64 3 l]⟩ kn kx kr = (zbh_p0 self s i v n_Kind l).bind fun r => kx 1 ⟨[(5, [], .c (.o (.hd 1 0))), (6, [], .c (.o (.val (.string r))))], [], [.view .node v, .cells 36 [.val (.int .i64 n_Kind), .val (.string n_Key), .val (.string n_Text), .val (.bool n_Whole), .val (.int .i64 n_Int), .val (.int .i64 n_Kids)]]⟩ := by
 refine loop_piece (step := fun x => zbh_p0_step self x.1 x.2 v n_Kind l) (enc := fun x => ⟨[(0, [], .c (.o (.own 0))), (5, [], .c (.o (.hd 1 0))), (6, [], .c (.o (.val (.string x.1)))), (7, [], .c (.o (.own 2))), (8, [], .c (.o (.val (.int .i64 x.2))))], [], [.view .node v, .cells 36 [.val (.int .i64 n_Kind), .val (.string n_Key), .val (.string n_Text), .val (.bool n_Whole), .val (.int .i64 n_Int), .val (.int .i64 n_Kids)], .row .i64 3 l]⟩) (ko := fun r => kx 1 ⟨[(5, [], .c (.o (.hd 1 0))), (6, [], .c (.o (.val (.string r))))], [], [.view .node v, .cells 36 [.val (.int .i64 n_Kind), .val (.string n_Key), .val (.string n_Text), .val (.bool n_Whole), .val (.int .i64 n_Int), .val (.int .i64 n_Kids)]]⟩) ?_ ?_ (s, i)
 ·intro x; kernel_rfl
 ·intro x ki; simp only [zbh_p0_step, -eq_self, bind_cond, bind_gd, Option.bind_assoc, obS, Sum.elim_inl, Sum.elim_inr, bind_elim]; kernel_rfl
theorem zbh_sub0 (self : (List Eng.Node) → Int → Option ByteArray) : SubOK (zbh_L self) (zbh_G self) 1 17 79 0 zbh_b0 := sub_ok' zbh_d0 (fun x R kn kx kr => (zbh_p0 self x.1.2.2.1 x.1.2.2.2.2.1 x.2.1 x.2.2.1.1 x.2.2.2.1).bind fun r => kx 1 ⟨[(5, [], .c (.o (.hd 1 0))), (6, [], .c (.o (.val (.string r))))], [], [.view .node x.2.1, .cells 36 [.val (.int .i64 x.2.2.1.1), .val (.string x.2.2.1.2.1), .val (.string x.2.2.1.2.2.1), .val (.bool x.2.2.1.2.2.2.1), .val (.int .i64 x.2.2.1.2.2.2.2.1), .val (.int .i64 x.2.2.1.2.2.2.2.2.1)]]⟩) (by kernel_rfl) fun x R kn kx kr => zbh_p0_eq self x.1.2.2.1 x.1.2.2.2.2.1 x.2.1 x.2.2.1.1 x.2.2.1.2.1 x.2.2.1.2.2.1 x.2.2.1.2.2.2.1 x.2.2.1.2.2.2.2.1 x.2.2.1.2.2.2.2.2.1 x.2.2.2.1 R kn kx kr
theorem zbh_subs (self : (List Eng.Node) → Int → Option ByteArray) : subsOK (zbh_L self) (zbh_G self) 1 17 79 zbh_q := subs_of (show AllSub (zbh_L self) (zbh_G self) 1 17 79 [(0, zbh_b0), (1, zbh_b1), (2, zbh_b2)] from ⟨(zbh_sub0 self), (zbh_sub1 self), (zbh_sub2 self), trivial⟩)
theorem zbh_eq (self : (List Eng.Node) → Int → Option ByteArray) (v : (List Eng.Node)) (at_ : Int) (R : Type) (k : SV → List SB → Option R) :
  fnQ (zbh_L self) (zbh_G self) 17 79 zbh_q [.tmp 4] [.c (.o (.own 0)), .c (.o (.val (.int .i64 at_)))] [.view .node v] k = (zbh_t self v at_).bind fun r => k (.c (.o (.val (.string r)))) [.view .node v] := by
 simp only [zbh_t, -eq_self, bind_cond, bind_gd, Option.bind_assoc, obS, Sum.elim_inl, Sum.elim_inr, bind_elim]
 kernel_rfl
theorem zbh_val_t (self : (List Eng.Node) → Int → Option ByteArray) (hself : ValidQ Tryd.prog 50 (zbh_ws self)) : ValidS Tryd.prog 50 (zbh_cs (zbh_t self)) :=
 val_ok zbh_chk 17 (zbh_Gok self hself) zbh_da zbh_db 1 (fun x y R k => (zbh_t self y.1 x.2.1).bind fun r => k (.c (.o (.val (.string r)))) [.view .node y.1]) (by kernel_rfl)
  (fun x y R k => by simp only [Option.bind_assoc, obS]) (fun x => Nat.le_of_ble_eq_true rfl) (fun y => rfl) (zbh_subs self) fun x y => zbh_eq self y.1 x.2.1 _ _
def zbh_n : Nat → (List Eng.Node) → Int → Option ByteArray
 | 0 => fun _ _ => none
 | n + 1 => zbh_t (zbh_n n)
def zbh_s (v : (List Eng.Node)) (at_ : Int) : Option ByteArray := evt fun n => zbh_n n v at_
theorem zbh_valn : ∀ n, ValidS Tryd.prog 50 (zbh_cs (zbh_n n))
 | 0 => ValidS.zero fun args hp R k => by
  show ((Dec.d zbh_da args).bind fun x => (Dec.d zbh_db hp).bind fun y => none) = none
  cases Dec.d zbh_da args with
  | none => rfl
  | some x => cases Dec.d zbh_db hp <;> rfl
 | n + 1 => zbh_val_t (zbh_n n) (prep_quiet (zbh_valn n))
theorem zbh_val : ValidS Tryd.prog 50 (zbh_cs zbh_s) := ValidS.evt zbh_valn (fun args hp R k => by
  show ((Dec.d zbh_da args).bind fun x => (Dec.d zbh_db hp).bind fun y => _) = (((Dec.d zbh_da args).bind fun x => (Dec.d zbh_db hp).bind fun y => _) : Option (SV × List SB)).bind _
  cases Dec.d zbh_da args with
  | none => rfl
  | some x =>
   cases Dec.d zbh_db hp with
   | none => rfl
   | some y => simp only [obS, Option.bind_assoc]) fun args hp v hp' h => by
  obtain ⟨x, h1, h2⟩ := Option.bind_eq_some_iff.1 h
  obtain ⟨y, h3, h4⟩ := Option.bind_eq_some_iff.1 h2
  obtain ⟨r, h5, h6⟩ := Option.bind_eq_some_iff.1 h4
  obtain ⟨n, h7⟩ := evt_some h5
  refine ⟨n, ?_⟩
  show ((Dec.d zbh_da args).bind fun x => (Dec.d zbh_db hp).bind fun y => _) = _
  rw [h1]
  simp only [obS]
  rw [h3]
  simp only [obS]
  exact (congrArg (fun z => Option.bind z _) h7).trans h6
def zbh_w : CQ := zbh_ws zbh_s
theorem zbh_ok : ValidQ Tryd.prog 50 zbh_w := prep_quiet zbh_val

/-! ### signet/signetref3.Print -/
def zaz_q : IQ :=
 (.seq
 (.reg 3 none [
  oP 2 (.mv (.v (.string ⟨#[]⟩))),
  oP 3 (.mv (.v (.int .i64 0)))])
 (.seq
 (.reg 4 none [
  oP 6 (.mv (.t 0)),
  oP 7 (.call 38 [(.t 6)]),
  oP 4 (.mv (.t 7))])
 (.seq
 (.seq
 (.reg 9 none [
  oP 8 (.mv (.t 4)),
  oP 9 (.un .not (.t 8))])
 (.cond (.t 9)
  (.seq
  (.reg 3 none [
   oP 2 (.mv (.v (.string ⟨#[]⟩))),
   oP 3 (.mv (.v (.int .i64 31)))])
  (.canon [] [2, 3] .ret))
  .skip))
 (.seq
 (.reg 5 none [
  oP 10 (.mv (.t 0)),
  oP 11 (.call 50 [(.t 10), (.v (.int .i64 0))]),
  oP 5 (.mv (.t 11))])
 (.seq
 (.seq
 (.reg 14 none [
  oP 12 (.mv (.t 5)),
  oP 13 (.lenS (.t 12)),
  oP 14 (.bin false .gtr (.t 13) (.v (.int .i64 262144)))])
 (.cond (.t 14)
  (.seq
  (.reg 3 none [
   oP 2 (.mv (.v (.string ⟨#[]⟩))),
   oP 3 (.mv (.v (.int .i64 10)))])
  (.canon [] [2, 3] .ret))
  .skip))
 (.seq
 (.reg 3 none [
  oP 15 (.mv (.t 5)),
  oP 2 (.mv (.t 15)),
  oP 3 (.mv (.v (.int .i64 0)))])
 (.canon [] [2, 3] .ret)))))))
theorem zaz_chk : chk Tryd.prog 35 [] = some (zaz_q.erase, [.tmp 2, .tmp 3], 16) := by kernel_rfl
def zaz_s (v : (List Eng.Node)) : Option (ByteArray × Int) :=
 (zbb_s v).bind fun r1 =>
 bif (!r1) then (
  some ((⟨#[]⟩ : ByteArray), (31 : Int)))
 else (
  (zbh_s v (0 : Int)).bind fun r2 =>
  bif decide ((262144 : Int) < (r2.size : Int)) then (
   some ((⟨#[]⟩ : ByteArray), (10 : Int)))
  else (
   some (r2, (0 : Int))))
def zaz_G : Nat → Option CQ := tblQ [(38, zbb_w), (50, zbh_w)]
theorem zaz_Gok : ∀ f C, zaz_G f = some C → ValidQ Tryd.prog f C := tblQ_valid ⟨zbb_ok, zbh_ok, trivial⟩
def zaz_L : Nat → SubQ := tblL []
theorem zaz_subs : subsOK zaz_L zaz_G 1 6 16 zaz_q := subs_of (show AllSub zaz_L zaz_G 1 6 16 [] from trivial)
theorem zaz_eq (v : (List Eng.Node)) (R : Type) (k : SV → List SB → Option R) :
  fnQ zaz_L zaz_G 6 16 zaz_q [.tmp 2, .tmp 3] [.c (.o (.own 0))] [.view .node v] k = (zaz_s v).bind fun r => k (.tup [.o (.val (.string r.1)), .o (.val (.int .i64 r.2))]) [.view .node v] := by
 simp only [zaz_s, -eq_self, bind_cond, bind_gd, Option.bind_assoc, obS, Sum.elim_inl, Sum.elim_inr, bind_elim]
 kernel_rfl
def zaz_da := (dCons (dVC (dCO (dO 0))) dNil)
def zaz_db := (dCons (dView .node) dNil)
def zaz_c : CS := fun args hp R k => (Dec.d zaz_da args).bind fun x => (Dec.d zaz_db hp).bind fun y => (zaz_s y.1).bind fun r => k (.tup [.o (.val (.string r.1)), .o (.val (.int .i64 r.2))]) [.view .node y.1]
theorem zaz_val : ValidS Tryd.prog 35 zaz_c :=
 val_ok zaz_chk 6 zaz_Gok zaz_da zaz_db 1 (fun x y R k => (zaz_s y.1).bind fun r => k (.tup [.o (.val (.string r.1)), .o (.val (.int .i64 r.2))]) [.view .node y.1]) (by kernel_rfl)
  (fun x y R k => by simp only [Option.bind_assoc, obS]) (fun x => Nat.le_of_ble_eq_true rfl) (fun y => rfl) zaz_subs fun x y => zaz_eq y.1 _ _
def zaz_w : CQ := prepQ [(0, none, some (.node, 36))] (liftV [false] zaz_c)
theorem zaz_ok : ValidQ Tryd.prog 35 zaz_w := prep_quiet zaz_val

/-! ### signet/signetref17.Print -/
def zaq_b0 : IQ :=
 (.seq
 (.reg 6 none [
  oP 46 (.mv (.t 4)),
  oP 47 (.call 35 [(.t 46)]),
  oP 45 (.mv (.t 47)),
  oP 48 (.extract (.t 45) 0),
  oP 49 (.extract (.t 45) 1),
  oP 5 (.mv (.t 48)),
  oP 6 (.mv (.t 49))])
 (.seq
 (.reg 3 none [
  oP 50 (.mv (.t 5)),
  oP 51 (.mv (.t 6)),
  oP 2 (.mv (.t 50)),
  oP 3 (.mv (.t 51))])
 (.canon [] [2, 3] .ret)))
def zaq_q : IQ :=
 (.seq
 (.reg 3 none [
  oP 1 (.box 48 4 (.t 0)),
  oP 2 (.mv (.v (.string ⟨#[]⟩))),
  oP 3 (.mv (.v (.int .i64 0)))])
 (.seq
 (.seq
 (.reg 10 none [
  oP 7 (.faddr 0 (.t 1)),
  oP 8 (.load none (.t 7)),
  oP 9 (.call 33 [(.t 8)]),
  oP 10 (.bin false .eql (.t 9) (.v (.string ⟨#[]⟩)))])
 (.cond (.t 10)
  (.seq
  (.reg 3 none [
   oP 2 (.mv (.v (.string ⟨#[]⟩))),
   oP 3 (.mv (.v (.int .i64 111)))])
  (.canon [] [2, 3] .ret))
  .skip))
 (.seq
 (.seq
 (.reg 24 none [
  oP 11 (.faddr 1 (.t 1)),
  oP 12 (.load none (.t 11)),
  oP 13 (.call 34 [(.t 12)]),
  oP 14 (.un .not (.t 13)),
  oP 15 (.mv (.t 14)),
  oG 16 (.faddr 3 (.t 1)) 15 false,
  oG 17 (.load none (.t 16)) 15 false,
  oG 18 (.mv (.t 17)) 15 false,
  oG 19 (.faddr 2 (.t 1)) 18 true,
  oG 20 (.load none (.t 19)) 18 true,
  oG 21 (.call 34 [(.t 20)]) 18 true,
  oG 22 (.un .not (.t 21)) 18 true,
  oG 23 (.pick (.t 18) (.t 22) (.v (.bool false))) 15 false,
  oP 24 (.pick (.t 15) (.v (.bool true)) (.t 23))])
 (.cond (.t 24)
  (.seq
  (.reg 3 none [
   oP 2 (.mv (.v (.string ⟨#[]⟩))),
   oP 3 (.mv (.v (.int .i64 110)))])
  (.canon [] [2, 3] .ret))
  .skip))
 (.seq
 (.reg 4 (some [0, 1, 2, 5, 6, 7, 3, 4, 8, 9]) [
  oP 25 (.build [.int .i64 0, .string ⟨#[]⟩, .string ⟨#[]⟩, .bool false, .int .i64 0, .int .i64 0] [(0, 1, (.v (.int .i64 7))), (5, 1, (.v (.int .i64 2)))]),
  oP 26 (.faddr 0 (.t 1)),
  oP 27 (.load none (.t 26)),
  oP 30 (.faddr 1 (.t 1)),
  oP 31 (.load none (.t 30)),
  oP 32 (.build [.int .i64 0, .string ⟨#[]⟩, .string ⟨#[]⟩, .bool false, .int .i64 0, .int .i64 0] [(0, 1, (.v (.int .i64 5))), (1, 1, (.v (.string ⟨#[107, 105, 100]⟩))), (2, 1, (.t 31))]),
  oP 28 (.call 33 [(.t 27)]),
  oP 29 (.build [.int .i64 0, .string ⟨#[]⟩, .string ⟨#[]⟩, .bool false, .int .i64 0, .int .i64 0] [(0, 1, (.v (.int .i64 5))), (1, 1, (.v (.string ⟨#[97, 108, 103]⟩))), (2, 1, (.t 28))]),
  oP 33 (.bslice 36 6 3 [.int .i64 0, .string ⟨#[]⟩, .string ⟨#[]⟩, .bool false, .int .i64 0, .int .i64 0] [(0, (.t 25)), (1, (.t 29)), (2, (.t 32))]),
  oP 4 (.mv (.t 33))])
 (.seq
 (.seq
 (.reg 35 none [
  oP 34 (.faddr 3 (.t 1)),
  oP 35 (.load none (.t 34))])
 (.cond (.t 35)
  (.seq
  (.reg 0 none [
   oP 36 (.mv (.t 4)),
   oP 37 (.iaddr 6 (.t 36) (.v (.int .i64 0))),
   oP 38 (.faddr 5 (.t 37)),
   ⟨none, .store 1 (.t 38) (.v (.int .i64 3)), none⟩])
  (.reg 4 none [
   oP 39 (.mv (.t 4)),
   oP 40 (.faddr 2 (.t 1)),
   oP 41 (.load none (.t 40)),
   oP 42 (.build [.int .i64 0, .string ⟨#[]⟩, .string ⟨#[]⟩, .bool false, .int .i64 0, .int .i64 0] [(0, 1, (.v (.int .i64 5))), (1, 1, (.v (.string ⟨#[116, 121, 112]⟩))), (2, 1, (.t 41))]),
   oP 43 (.bslice 36 6 1 [.int .i64 0, .string ⟨#[]⟩, .string ⟨#[]⟩, .bool false, .int .i64 0, .int .i64 0] [(0, (.t 42))]),
   oP 44 (.append 36 6 64 [.int .i64 0, .string ⟨#[]⟩, .string ⟨#[]⟩, .bool false, .int .i64 0, .int .i64 0] (.t 39) (.t 43)),
   oP 4 (.mv (.t 44))]))
  .skip))
 (.canon [] [4] (.sub 0 zaq_b0)))))))
theorem zaq_chk : chk Tryd.prog 16 [] = some (zaq_q.erase, [.tmp 2, .tmp 3], 52) := by kernel_rfl
def zaq_p0 (v : List Eng.Node) : Option (ByteArray × Int) :=
 (zaz_s v).bind fun r5 =>
 some (r5.1, r5.2)
def zaq_s (h : api_Header) : Option (ByteArray × Int) :=
 (zao_s h.alg).bind fun r1 =>
 bif decide (r1 = (⟨#[]⟩ : ByteArray)) then (
  some ((⟨#[]⟩ : ByteArray), (111 : Int)))
 else (
  (zar_s h.kid).bind fun r2 =>
  bif (!r2) then (
   some ((⟨#[]⟩ : ByteArray), (110 : Int)))
  else (
   bif h.hasTyp then (
    (zar_s h.typ).bind fun r3 =>
    bif (!r3) then (
     some ((⟨#[]⟩ : ByteArray), (110 : Int)))
    else (
     (zao_s h.alg).bind fun r4 =>
     bif h.hasTyp then (
      gd (0 ≤ (0 : Int) ∧ (0 : Int) < [(⟨(7 : Int), (⟨#[]⟩ : ByteArray), (⟨#[]⟩ : ByteArray), false, (0 : Int), (2 : Int)⟩ : Eng.Node), (⟨(5 : Int), (⟨#[97, 108, 103]⟩ : ByteArray), r4, false, (0 : Int), (0 : Int)⟩ : Eng.Node), (⟨(5 : Int), (⟨#[107, 105, 100]⟩ : ByteArray), h.kid, false, (0 : Int), (0 : Int)⟩ : Eng.Node)].length) <|
      gd ((Int.toNat (0 : Int)) < [(⟨(7 : Int), (⟨#[]⟩ : ByteArray), (⟨#[]⟩ : ByteArray), false, (0 : Int), (2 : Int)⟩ : Eng.Node), (⟨(5 : Int), (⟨#[97, 108, 103]⟩ : ByteArray), r4, false, (0 : Int), (0 : Int)⟩ : Eng.Node), (⟨(5 : Int), (⟨#[107, 105, 100]⟩ : ByteArray), h.kid, false, (0 : Int), (0 : Int)⟩ : Eng.Node)].length) <|
      gd ((Int.toNat (0 : Int)) < [(⟨(7 : Int), (⟨#[]⟩ : ByteArray), (⟨#[]⟩ : ByteArray), false, (0 : Int), (2 : Int)⟩ : Eng.Node), (⟨(5 : Int), (⟨#[97, 108, 103]⟩ : ByteArray), r4, false, (0 : Int), (0 : Int)⟩ : Eng.Node), (⟨(5 : Int), (⟨#[107, 105, 100]⟩ : ByteArray), h.kid, false, (0 : Int), (0 : Int)⟩ : Eng.Node)].length) <|
      gd (([(⟨(7 : Int), (⟨#[]⟩ : ByteArray), (⟨#[]⟩ : ByteArray), false, (0 : Int), (2 : Int)⟩ : Eng.Node), (⟨(5 : Int), (⟨#[97, 108, 103]⟩ : ByteArray), r4, false, (0 : Int), (0 : Int)⟩ : Eng.Node), (⟨(5 : Int), (⟨#[107, 105, 100]⟩ : ByteArray), h.kid, false, (0 : Int), (0 : Int)⟩ : Eng.Node)].set (Int.toNat (0 : Int)) (⟨([(⟨(7 : Int), (⟨#[]⟩ : ByteArray), (⟨#[]⟩ : ByteArray), false, (0 : Int), (2 : Int)⟩ : Eng.Node), (⟨(5 : Int), (⟨#[97, 108, 103]⟩ : ByteArray), r4, false, (0 : Int), (0 : Int)⟩ : Eng.Node), (⟨(5 : Int), (⟨#[107, 105, 100]⟩ : ByteArray), h.kid, false, (0 : Int), (0 : Int)⟩ : Eng.Node)].getD (Int.toNat (0 : Int)) (ET.dft .node)).kind, ([(⟨(7 : Int), (⟨#[]⟩ : ByteArray), (⟨#[]⟩ : ByteArray), false, (0 : Int), (2 : Int)⟩ : Eng.Node), (⟨(5 : Int), (⟨#[97, 108, 103]⟩ : ByteArray), r4, false, (0 : Int), (0 : Int)⟩ : Eng.Node), (⟨(5 : Int), (⟨#[107, 105, 100]⟩ : ByteArray), h.kid, false, (0 : Int), (0 : Int)⟩ : Eng.Node)].getD (Int.toNat (0 : Int)) (ET.dft .node)).key, ([(⟨(7 : Int), (⟨#[]⟩ : ByteArray), (⟨#[]⟩ : ByteArray), false, (0 : Int), (2 : Int)⟩ : Eng.Node), (⟨(5 : Int), (⟨#[97, 108, 103]⟩ : ByteArray), r4, false, (0 : Int), (0 : Int)⟩ : Eng.Node), (⟨(5 : Int), (⟨#[107, 105, 100]⟩ : ByteArray), h.kid, false, (0 : Int), (0 : Int)⟩ : Eng.Node)].getD (Int.toNat (0 : Int)) (ET.dft .node)).text, ([(⟨(7 : Int), (⟨#[]⟩ : ByteArray), (⟨#[]⟩ : ByteArray), false, (0 : Int), (2 : Int)⟩ : Eng.Node), (⟨(5 : Int), (⟨#[97, 108, 103]⟩ : ByteArray), r4, false, (0 : Int), (0 : Int)⟩ : Eng.Node), (⟨(5 : Int), (⟨#[107, 105, 100]⟩ : ByteArray), h.kid, false, (0 : Int), (0 : Int)⟩ : Eng.Node)].getD (Int.toNat (0 : Int)) (ET.dft .node)).whole, ([(⟨(7 : Int), (⟨#[]⟩ : ByteArray), (⟨#[]⟩ : ByteArray), false, (0 : Int), (2 : Int)⟩ : Eng.Node), (⟨(5 : Int), (⟨#[97, 108, 103]⟩ : ByteArray), r4, false, (0 : Int), (0 : Int)⟩ : Eng.Node), (⟨(5 : Int), (⟨#[107, 105, 100]⟩ : ByteArray), h.kid, false, (0 : Int), (0 : Int)⟩ : Eng.Node)].getD (Int.toNat (0 : Int)) (ET.dft .node)).int, (3 : Int)⟩ : Eng.Node)).length + ([(⟨(5 : Int), (⟨#[116, 121, 112]⟩ : ByteArray), h.typ, false, (0 : Int), (0 : Int)⟩ : Eng.Node)] : List Eng.Node).length ≤ 9223372036854775807 ∧ (([(⟨(7 : Int), (⟨#[]⟩ : ByteArray), (⟨#[]⟩ : ByteArray), false, (0 : Int), (2 : Int)⟩ : Eng.Node), (⟨(5 : Int), (⟨#[97, 108, 103]⟩ : ByteArray), r4, false, (0 : Int), (0 : Int)⟩ : Eng.Node), (⟨(5 : Int), (⟨#[107, 105, 100]⟩ : ByteArray), h.kid, false, (0 : Int), (0 : Int)⟩ : Eng.Node)].set (Int.toNat (0 : Int)) (⟨([(⟨(7 : Int), (⟨#[]⟩ : ByteArray), (⟨#[]⟩ : ByteArray), false, (0 : Int), (2 : Int)⟩ : Eng.Node), (⟨(5 : Int), (⟨#[97, 108, 103]⟩ : ByteArray), r4, false, (0 : Int), (0 : Int)⟩ : Eng.Node), (⟨(5 : Int), (⟨#[107, 105, 100]⟩ : ByteArray), h.kid, false, (0 : Int), (0 : Int)⟩ : Eng.Node)].getD (Int.toNat (0 : Int)) (ET.dft .node)).kind, ([(⟨(7 : Int), (⟨#[]⟩ : ByteArray), (⟨#[]⟩ : ByteArray), false, (0 : Int), (2 : Int)⟩ : Eng.Node), (⟨(5 : Int), (⟨#[97, 108, 103]⟩ : ByteArray), r4, false, (0 : Int), (0 : Int)⟩ : Eng.Node), (⟨(5 : Int), (⟨#[107, 105, 100]⟩ : ByteArray), h.kid, false, (0 : Int), (0 : Int)⟩ : Eng.Node)].getD (Int.toNat (0 : Int)) (ET.dft .node)).key, ([(⟨(7 : Int), (⟨#[]⟩ : ByteArray), (⟨#[]⟩ : ByteArray), false, (0 : Int), (2 : Int)⟩ : Eng.Node), (⟨(5 : Int), (⟨#[97, 108, 103]⟩ : ByteArray), r4, false, (0 : Int), (0 : Int)⟩ : Eng.Node), (⟨(5 : Int), (⟨#[107, 105, 100]⟩ : ByteArray), h.kid, false, (0 : Int), (0 : Int)⟩ : Eng.Node)].getD (Int.toNat (0 : Int)) (ET.dft .node)).text, ([(⟨(7 : Int), (⟨#[]⟩ : ByteArray), (⟨#[]⟩ : ByteArray), false, (0 : Int), (2 : Int)⟩ : Eng.Node), (⟨(5 : Int), (⟨#[97, 108, 103]⟩ : ByteArray), r4, false, (0 : Int), (0 : Int)⟩ : Eng.Node), (⟨(5 : Int), (⟨#[107, 105, 100]⟩ : ByteArray), h.kid, false, (0 : Int), (0 : Int)⟩ : Eng.Node)].getD (Int.toNat (0 : Int)) (ET.dft .node)).whole, ([(⟨(7 : Int), (⟨#[]⟩ : ByteArray), (⟨#[]⟩ : ByteArray), false, (0 : Int), (2 : Int)⟩ : Eng.Node), (⟨(5 : Int), (⟨#[97, 108, 103]⟩ : ByteArray), r4, false, (0 : Int), (0 : Int)⟩ : Eng.Node), (⟨(5 : Int), (⟨#[107, 105, 100]⟩ : ByteArray), h.kid, false, (0 : Int), (0 : Int)⟩ : Eng.Node)].getD (Int.toNat (0 : Int)) (ET.dft .node)).int, (3 : Int)⟩ : Eng.Node)).length + ([(⟨(5 : Int), (⟨#[116, 121, 112]⟩ : ByteArray), h.typ, false, (0 : Int), (0 : Int)⟩ : Eng.Node)] : List Eng.Node).length) * 64 ≤ 140737488355328) <|
      (zaq_p0 (([(⟨(7 : Int), (⟨#[]⟩ : ByteArray), (⟨#[]⟩ : ByteArray), false, (0 : Int), (2 : Int)⟩ : Eng.Node), (⟨(5 : Int), (⟨#[97, 108, 103]⟩ : ByteArray), r4, false, (0 : Int), (0 : Int)⟩ : Eng.Node), (⟨(5 : Int), (⟨#[107, 105, 100]⟩ : ByteArray), h.kid, false, (0 : Int), (0 : Int)⟩ : Eng.Node)].set (Int.toNat (0 : Int)) (⟨([(⟨(7 : Int), (⟨#[]⟩ : ByteArray), (⟨#[]⟩ : ByteArray), false, (0 : Int), (2 : Int)⟩ : Eng.Node), (⟨(5 : Int), (⟨#[97, 108, 103]⟩ : ByteArray), r4, false, (0 : Int), (0 : Int)⟩ : Eng.Node), (⟨(5 : Int), (⟨#[107, 105, 100]⟩ : ByteArray), h.kid, false, (0 : Int), (0 : Int)⟩ : Eng.Node)].getD (Int.toNat (0 : Int)) (ET.dft .node)).kind, ([(⟨(7 : Int), (⟨#[]⟩ : ByteArray), (⟨#[]⟩ : ByteArray), false, (0 : Int), (2 : Int)⟩ : Eng.Node), (⟨(5 : Int), (⟨#[97, 108, 103]⟩ : ByteArray), r4, false, (0 : Int), (0 : Int)⟩ : Eng.Node), (⟨(5 : Int), (⟨#[107, 105, 100]⟩ : ByteArray), h.kid, false, (0 : Int), (0 : Int)⟩ : Eng.Node)].getD (Int.toNat (0 : Int)) (ET.dft .node)).key, ([(⟨(7 : Int), (⟨#[]⟩ : ByteArray), (⟨#[]⟩ : ByteArray), false, (0 : Int), (2 : Int)⟩ : Eng.Node), (⟨(5 : Int), (⟨#[97, 108, 103]⟩ : ByteArray), r4, false, (0 : Int), (0 : Int)⟩ : Eng.Node), (⟨(5 : Int), (⟨#[107, 105, 100]⟩ : ByteArray), h.kid, false, (0 : Int), (0 : Int)⟩ : Eng.Node)].getD (Int.toNat (0 : Int)) (ET.dft .node)).text, ([(⟨(7 : Int), (⟨#[]⟩ : ByteArray), (⟨#[]⟩ : ByteArray), false, (0 : Int), (2 : Int)⟩ : Eng.Node), (⟨(5 : Int), (⟨#[97, 108, 103]⟩ : ByteArray), r4, false, (0 : Int), (0 : Int)⟩ : Eng.Node), (⟨(5 : Int), (⟨#[107, 105, 100]⟩ : ByteArray), h.kid, false, (0 : Int), (0 : Int)⟩ : Eng.Node)].getD (Int.toNat (0 : Int)) (ET.dft .node)).whole, ([(⟨(7 : Int), (⟨#[]⟩ : ByteArray), (⟨#[]⟩ : ByteArray), false, (0 : Int), (2 : Int)⟩ : Eng.Node), (⟨(5 : Int), (⟨#[97, 108, 103]⟩ : ByteArray), r4, false, (0 : Int), (0 : Int)⟩ : Eng.Node), (⟨(5 : Int), (⟨#[107, 105, 100]⟩ : ByteArray), h.kid, false, (0 : Int), (0 : Int)⟩ : Eng.Node)].getD (Int.toNat (0 : Int)) (ET.dft .node)).int, (3 : Int)⟩ : Eng.Node)) ++ [(⟨(5 : Int), (⟨#[116, 121, 112]⟩ : ByteArray), h.typ, false, (0 : Int), (0 : Int)⟩ : Eng.Node)])).bind fun o6 =>
      some (o6.1, o6.2))
     else (
      (zaq_p0 [(⟨(7 : Int), (⟨#[]⟩ : ByteArray), (⟨#[]⟩ : ByteArray), false, (0 : Int), (2 : Int)⟩ : Eng.Node), (⟨(5 : Int), (⟨#[97, 108, 103]⟩ : ByteArray), r4, false, (0 : Int), (0 : Int)⟩ : Eng.Node), (⟨(5 : Int), (⟨#[107, 105, 100]⟩ : ByteArray), h.kid, false, (0 : Int), (0 : Int)⟩ : Eng.Node)]).bind fun o7 =>
      some (o7.1, o7.2))))
   else (
    (zao_s h.alg).bind fun r8 =>
    bif h.hasTyp then (
     gd (0 ≤ (0 : Int) ∧ (0 : Int) < [(⟨(7 : Int), (⟨#[]⟩ : ByteArray), (⟨#[]⟩ : ByteArray), false, (0 : Int), (2 : Int)⟩ : Eng.Node), (⟨(5 : Int), (⟨#[97, 108, 103]⟩ : ByteArray), r8, false, (0 : Int), (0 : Int)⟩ : Eng.Node), (⟨(5 : Int), (⟨#[107, 105, 100]⟩ : ByteArray), h.kid, false, (0 : Int), (0 : Int)⟩ : Eng.Node)].length) <|
     gd ((Int.toNat (0 : Int)) < [(⟨(7 : Int), (⟨#[]⟩ : ByteArray), (⟨#[]⟩ : ByteArray), false, (0 : Int), (2 : Int)⟩ : Eng.Node), (⟨(5 : Int), (⟨#[97, 108, 103]⟩ : ByteArray), r8, false, (0 : Int), (0 : Int)⟩ : Eng.Node), (⟨(5 : Int), (⟨#[107, 105, 100]⟩ : ByteArray), h.kid, false, (0 : Int), (0 : Int)⟩ : Eng.Node)].length) <|
     gd ((Int.toNat (0 : Int)) < [(⟨(7 : Int), (⟨#[]⟩ : ByteArray), (⟨#[]⟩ : ByteArray), false, (0 : Int), (2 : Int)⟩ : Eng.Node), (⟨(5 : Int), (⟨#[97, 108, 103]⟩ : ByteArray), r8, false, (0 : Int), (0 : Int)⟩ : Eng.Node), (⟨(5 : Int), (⟨#[107, 105, 100]⟩ : ByteArray), h.kid, false, (0 : Int), (0 : Int)⟩ : Eng.Node)].length) <|
     gd (([(⟨(7 : Int), (⟨#[]⟩ : ByteArray), (⟨#[]⟩ : ByteArray), false, (0 : Int), (2 : Int)⟩ : Eng.Node), (⟨(5 : Int), (⟨#[97, 108, 103]⟩ : ByteArray), r8, false, (0 : Int), (0 : Int)⟩ : Eng.Node), (⟨(5 : Int), (⟨#[107, 105, 100]⟩ : ByteArray), h.kid, false, (0 : Int), (0 : Int)⟩ : Eng.Node)].set (Int.toNat (0 : Int)) (⟨([(⟨(7 : Int), (⟨#[]⟩ : ByteArray), (⟨#[]⟩ : ByteArray), false, (0 : Int), (2 : Int)⟩ : Eng.Node), (⟨(5 : Int), (⟨#[97, 108, 103]⟩ : ByteArray), r8, false, (0 : Int), (0 : Int)⟩ : Eng.Node), (⟨(5 : Int), (⟨#[107, 105, 100]⟩ : ByteArray), h.kid, false, (0 : Int), (0 : Int)⟩ : Eng.Node)].getD (Int.toNat (0 : Int)) (ET.dft .node)).kind, ([(⟨(7 : Int), (⟨#[]⟩ : ByteArray), (⟨#[]⟩ : ByteArray), false, (0 : Int), (2 : Int)⟩ : Eng.Node), (⟨(5 : Int), (⟨#[97, 108, 103]⟩ : ByteArray), r8, false, (0 : Int), (0 : Int)⟩ : Eng.Node), (⟨(5 : Int), (⟨#[107, 105, 100]⟩ : ByteArray), h.kid, false, (0 : Int), (0 : Int)⟩ : Eng.Node)].getD (Int.toNat (0 : Int)) (ET.dft .node)).key, ([(⟨(7 : Int), (⟨#[]⟩ : ByteArray), (⟨#[]⟩ : ByteArray), false, (0 : Int), (2 : Int)⟩ : Eng.Node), (⟨(5 : Int), (⟨#[97, 108, 103]⟩ : ByteArray), r8, false, (0 : Int), (0 : Int)⟩ : Eng.Node), (⟨(5 : Int), (⟨#[107, 105, 100]⟩ : ByteArray), h.kid, false, (0 : Int), (0 : Int)⟩ : Eng.Node)].getD (Int.toNat (0 : Int)) (ET.dft .node)).text, ([(⟨(7 : Int), (⟨#[]⟩ : ByteArray), (⟨#[]⟩ : ByteArray), false, (0 : Int), (2 : Int)⟩ : Eng.Node), (⟨(5 : Int), (⟨#[97, 108, 103]⟩ : ByteArray), r8, false, (0 : Int), (0 : Int)⟩ : Eng.Node), (⟨(5 : Int), (⟨#[107, 105, 100]⟩ : ByteArray), h.kid, false, (0 : Int), (0 : Int)⟩ : Eng.Node)].getD (Int.toNat (0 : Int)) (ET.dft .node)).whole, ([(⟨(7 : Int), (⟨#[]⟩ : ByteArray), (⟨#[]⟩ : ByteArray), false, (0 : Int), (2 : Int)⟩ : Eng.Node), (⟨(5 : Int), (⟨#[97, 108, 103]⟩ : ByteArray), r8, false, (0 : Int), (0 : Int)⟩ : Eng.Node), (⟨(5 : Int), (⟨#[107, 105, 100]⟩ : ByteArray), h.kid, false, (0 : Int), (0 : Int)⟩ : Eng.Node)].getD (Int.toNat (0 : Int)) (ET.dft .node)).int, (3 : Int)⟩ : Eng.Node)).length + ([(⟨(5 : Int), (⟨#[116, 121, 112]⟩ : ByteArray), h.typ, false, (0 : Int), (0 : Int)⟩ : Eng.Node)] : List Eng.Node).length ≤ 9223372036854775807 ∧ (([(⟨(7 : Int), (⟨#[]⟩ : ByteArray), (⟨#[]⟩ : ByteArray), false, (0 : Int), (2 : Int)⟩ : Eng.Node), (⟨(5 : Int), (⟨#[97, 108, 103]⟩ : ByteArray), r8, false, (0 : Int), (0 : Int)⟩ : Eng.Node), (⟨(5 : Int), (⟨#[107, 105, 100]⟩ : ByteArray), h.kid, false, (0 : Int), (0 : Int)⟩ : Eng.Node)].set (Int.toNat (0 : Int)) (⟨([(⟨(7 : Int), (⟨#[]⟩ : ByteArray), (⟨#[]⟩ : ByteArray), false, (0 : Int), (2 : Int)⟩ : Eng.Node), (⟨(5 : Int), (⟨#[97, 108, 103]⟩ : ByteArray), r8, false, (0 : Int), (0 : Int)⟩ : Eng.Node), (⟨(5 : Int), (⟨#[107, 105, 100]⟩ : ByteArray), h.kid, false, (0 : Int), (0 : Int)⟩ : Eng.Node)].getD (Int.toNat (0 : Int)) (ET.dft .node)).kind, ([(⟨(7 : Int), (⟨#[]⟩ : ByteArray), (⟨#[]⟩ : ByteArray), false, (0 : Int), (2 : Int)⟩ : Eng.Node), (⟨(5 : Int), (⟨#[97, 108, 103]⟩ : ByteArray), r8, false, (0 : Int), (0 : Int)⟩ : Eng.Node), (⟨(5 : Int), (⟨#[107, 105, 100]⟩ : ByteArray), h.kid, false, (0 : Int), (0 : Int)⟩ : Eng.Node)].getD (Int.toNat (0 : Int)) (ET.dft .node)).key, ([(⟨(7 : Int), (⟨#[]⟩ : ByteArray), (⟨#[]⟩ : ByteArray), false, (0 : Int), (2 : Int)⟩ : Eng.Node), (⟨(5 : Int), (⟨#[97, 108, 103]⟩ : ByteArray), r8, false, (0 : Int), (0 : Int)⟩ : Eng.Node), (⟨(5 : Int), (⟨#[107, 105, 100]⟩ : ByteArray), h.kid, false, (0 : Int), (0 : Int)⟩ : Eng.Node)].getD (Int.toNat (0 : Int)) (ET.dft .node)).text, ([(⟨(7 : Int), (⟨#[]⟩ : ByteArray), (⟨#[]⟩ : ByteArray), false, (0 : Int), (2 : Int)⟩ : Eng.Node), (⟨(5 : Int), (⟨#[97, 108, 103]⟩ : ByteArray), r8, false, (0 : Int), (0 : Int)⟩ : Eng.Node), (⟨(5 : Int), (⟨#[107, 105, 100]⟩ : ByteArray), h.kid, false, (0 : Int), (0 : Int)⟩ : Eng.Node)].getD (Int.toNat (0 : Int)) (ET.dft .node)).whole, ([(⟨(7 : Int), (⟨#[]⟩ : ByteArray), (⟨#[]⟩ : ByteArray), false, (0 : Int), (2 : Int)⟩ : Eng.Node), (⟨(5 : Int), (⟨#[97, 108, 103]⟩ : ByteArray), r8, false, (0 : Int), (0 : Int)⟩ : Eng.Node), (⟨(5 : Int), (⟨#[107, 105, 100]⟩ : ByteArray), h.kid, false, (0 : Int), (0 : Int)⟩ : Eng.Node)].getD (Int.toNat (0 : Int)) (ET.dft .node)).int, (3 : Int)⟩ : Eng.Node)).length + ([(⟨(5 : Int), (⟨#[116, 121, 112]⟩ : ByteArray), h.typ, false, (0 : Int), (0 : Int)⟩ : Eng.Node)] : List Eng.Node).length) * 64 ≤ 140737488355328) <|
     (zaq_p0 (([(⟨(7 : Int), (⟨#[]⟩ : ByteArray), (⟨#[]⟩ : ByteArray), false, (0 : Int), (2 : Int)⟩ : Eng.Node), (⟨(5 : Int), (⟨#[97, 108, 103]⟩ : ByteArray), r8, false, (0 : Int), (0 : Int)⟩ : Eng.Node), (⟨(5 : Int), (⟨#[107, 105, 100]⟩ : ByteArray), h.kid, false, (0 : Int), (0 : Int)⟩ : Eng.Node)].set (Int.toNat (0 : Int)) (⟨([(⟨(7 : Int), (⟨#[]⟩ : ByteArray), (⟨#[]⟩ : ByteArray), false, (0 : Int), (2 : Int)⟩ : Eng.Node), (⟨(5 : Int), (⟨#[97, 108, 103]⟩ : ByteArray), r8, false, (0 : Int), (0 : Int)⟩ : Eng.Node), (⟨(5 : Int), (⟨#[107, 105, 100]⟩ : ByteArray), h.kid, false, (0 : Int), (0 : Int)⟩ : Eng.Node)].getD (Int.toNat (0 : Int)) (ET.dft .node)).kind, ([(⟨(7 : Int), (⟨#[]⟩ : ByteArray), (⟨#[]⟩ : ByteArray), false, (0 : Int), (2 : Int)⟩ : Eng.Node), (⟨(5 : Int), (⟨#[97, 108, 103]⟩ : ByteArray), r8, false, (0 : Int), (0 : Int)⟩ : Eng.Node), (⟨(5 : Int), (⟨#[107, 105, 100]⟩ : ByteArray), h.kid, false, (0 : Int), (0 : Int)⟩ : Eng.Node)].getD (Int.toNat (0 : Int)) (ET.dft .node)).key, ([(⟨(7 : Int), (⟨#[]⟩ : ByteArray), (⟨#[]⟩ : ByteArray), false, (0 : Int), (2 : Int)⟩ : Eng.Node), (⟨(5 : Int), (⟨#[97, 108, 103]⟩ : ByteArray), r8, false, (0 : Int), (0 : Int)⟩ : Eng.Node), (⟨(5 : Int), (⟨#[107, 105, 100]⟩ : ByteArray), h.kid, false, (0 : Int), (0 : Int)⟩ : Eng.Node)].getD (Int.toNat (0 : Int)) (ET.dft .node)).text, ([(⟨(7 : Int), (⟨#[]⟩ : ByteArray), (⟨#[]⟩ : ByteArray), false, (0 : Int), (2 : Int)⟩ : Eng.Node), (⟨(5 : Int), (⟨#[97, 108, 103]⟩ : ByteArray), r8, false, (0 : Int), (0 : Int)⟩ : Eng.Node), (⟨(5 : Int), (⟨#[107, 105, 100]⟩ : ByteArray), h.kid, false, (0 : Int), (0 : Int)⟩ : Eng.Node)].getD (Int.toNat (0 : Int)) (ET.dft .node)).whole, ([(⟨(7 : Int), (⟨#[]⟩ : ByteArray), (⟨#[]⟩ : ByteArray), false, (0 : Int), (2 : Int)⟩ : Eng.Node), (⟨(5 : Int), (⟨#[97, 108, 103]⟩ : ByteArray), r8, false, (0 : Int), (0 : Int)⟩ : Eng.Node), (⟨(5 : Int), (⟨#[107, 105, 100]⟩ : ByteArray), h.kid, false, (0 : Int), (0 : Int)⟩ : Eng.Node)].getD (Int.toNat (0 : Int)) (ET.dft .node)).int, (3 : Int)⟩ : Eng.Node)) ++ [(⟨(5 : Int), (⟨#[116, 121, 112]⟩ : ByteArray), h.typ, false, (0 : Int), (0 : Int)⟩ : Eng.Node)])).bind fun o9 =>
     some (o9.1, o9.2))
    else (
     (zaq_p0 [(⟨(7 : Int), (⟨#[]⟩ : ByteArray), (⟨#[]⟩ : ByteArray), false, (0 : Int), (2 : Int)⟩ : Eng.Node), (⟨(5 : Int), (⟨#[97, 108, 103]⟩ : ByteArray), r8, false, (0 : Int), (0 : Int)⟩ : Eng.Node), (⟨(5 : Int), (⟨#[107, 105, 100]⟩ : ByteArray), h.kid, false, (0 : Int), (0 : Int)⟩ : Eng.Node)]).bind fun o10 =>
     some (o10.1, o10.2)))))
def zaq_G : Nat → Option CQ := tblQ [(33, zao_w), (34, zar_w), (35, zaz_w)]
theorem zaq_Gok : ∀ f C, zaq_G f = some C → ValidQ Tryd.prog f C := tblQ_valid ⟨zao_ok, zar_ok, zaz_ok, trivial⟩
def zaq_d0 := (dQS (dCons (dSl 4 (dVC (dCO (dO 0)))) dNil) (dCons (dRow .node 36) dNil))
def zaq_l0 : SubQ := fun S R kn kx kr => (Dec.d zaq_d0 S).bind fun x => (zaq_p0 x.2.1).bind fun r => kr ⟨[(2, [], .c (.o (.val (.string r.1)))), (3, [], .c (.o (.val (.int .i64 r.2))))], [], []⟩
def zaq_L : Nat → SubQ := tblL [(0, zaq_l0)]
theorem zaq_p0_eq (v : List Eng.Node) (R : Type) (kn : QS → Option R) (kx : Nat → QS → Option R) (kr : QS → Option R) :
  interpQ zaq_L zaq_G 0 7 52 zaq_b0 ⟨[(4, [], .c (.o (.own 0)))], [], [.row .node 36 v]⟩ kn kx kr = (zaq_p0 v).bind fun r => kr ⟨[(2, [], .c (.o (.val (.string r.1)))), (3, [], .c (.o (.val (.int .i64 r.2))))], [], []⟩ := by
 simp only [zaq_p0, -eq_self, bind_cond, bind_gd, Option.bind_assoc, obS, Sum.elim_inl, Sum.elim_inr, bind_elim]
 kernel_rfl
theorem zaq_sub0 : SubOK zaq_L zaq_G 0 7 52 0 zaq_b0 := sub_ok' zaq_d0 (fun x R kn kx kr => (zaq_p0 x.2.1).bind fun r => kr ⟨[(2, [], .c (.o (.val (.string r.1)))), (3, [], .c (.o (.val (.int .i64 r.2))))], [], []⟩) (by kernel_rfl) fun x R kn kx kr => zaq_p0_eq x.2.1 R kn kx kr
theorem zaq_subs : subsOK zaq_L zaq_G 0 7 52 zaq_q := subs_of (show AllSub zaq_L zaq_G 0 7 52 [(0, zaq_b0)] from ⟨zaq_sub0, trivial⟩)
theorem zaq_eq (h : api_Header) (R : Type) (k : SV → List SB → Option R) :
  fnQ zaq_L zaq_G 7 52 zaq_q [.tmp 2, .tmp 3] [.c (.agg [.val (.int .i64 h.alg), .val (.string h.kid), .val (.string h.typ), .val (.bool h.hasTyp)])] [] k = (zaq_s h).bind fun r => k (.tup [.o (.val (.string r.1)), .o (.val (.int .i64 r.2))]) [] := by
 simp only [zaq_s, -eq_self, bind_cond, bind_gd, Option.bind_assoc, obS, Sum.elim_inl, Sum.elim_inr, bind_elim]
 kernel_rfl
def zaq_da := (dCons (dVC (dCA (dCons (dI .i64) (dCons dS (dCons dS (dCons dB dNil)))))) dNil)
def zaq_db := (dNil : Dec Unit (List SB))
def zaq_c : CS := fun args hp R k => (Dec.d zaq_da args).bind fun x => (Dec.d zaq_db hp).bind fun y => (zaq_s (⟨x.1.1, x.1.2.1, x.1.2.2.1, x.1.2.2.2.1⟩ : api_Header)).bind fun r => k (.tup [.o (.val (.string r.1)), .o (.val (.int .i64 r.2))]) []
theorem zaq_val : ValidS Tryd.prog 16 zaq_c :=
 val_ok zaq_chk 7 zaq_Gok zaq_da zaq_db 0 (fun x y R k => (zaq_s (⟨x.1.1, x.1.2.1, x.1.2.2.1, x.1.2.2.2.1⟩ : api_Header)).bind fun r => k (.tup [.o (.val (.string r.1)), .o (.val (.int .i64 r.2))]) []) (by kernel_rfl)
  (fun x y R k => by simp only [Option.bind_assoc, obS]) (fun x => Nat.le_of_ble_eq_true rfl) (fun y => rfl) zaq_subs fun x y => zaq_eq (⟨x.1.1, x.1.2.1, x.1.2.2.1, x.1.2.2.2.1⟩ : api_Header) _ _
def zaq_w : CQ := liftV [] zaq_c
theorem zaq_ok : ValidQ Tryd.prog 16 zaq_w := liftV_valid zaq_val

/-! ### signet/signetlaw17.HeaderWrites -/
def zan_q : IQ :=
 (.seq
 (.reg 2 none [
  oP 1 (.box 48 4 (.t 0)),
  oP 2 (.mv (.v (.bool false)))])
 (.seq
 (.reg 4 none [
  oP 8 (.load (some 4) (.t 1)),
  oP 9 (.call 15 [(.t 8)]),
  oP 7 (.mv (.t 9)),
  oP 10 (.extract (.t 7) 0),
  oP 11 (.extract (.t 7) 1),
  oP 3 (.mv (.t 10)),
  oP 4 (.mv (.t 11))])
 (.seq
 (.reg 6 none [
  oP 13 (.load (some 4) (.t 1)),
  oP 14 (.call 16 [(.t 13)]),
  oP 12 (.mv (.t 14)),
  oP 15 (.extract (.t 12) 0),
  oP 16 (.extract (.t 12) 1),
  oP 5 (.mv (.t 15)),
  oP 6 (.mv (.t 16))])
 (.seq
 (.reg 2 none [
  oP 17 (.mv (.t 3)),
  oP 18 (.mv (.t 5)),
  oP 19 (.bin false .eql (.t 17) (.t 18)),
  oP 20 (.mv (.t 19)),
  oG 21 (.mv (.t 4)) 20 true,
  oG 22 (.mv (.t 6)) 20 true,
  oG 23 (.bin false .eql (.t 21) (.t 22)) 20 true,
  oP 24 (.pick (.t 20) (.t 23) (.v (.bool false))),
  oP 2 (.mv (.t 24))])
 (.canon [] [2] .ret)))))
theorem zan_chk : chk Tryd.prog 5 [] = some (zan_q.erase, [.tmp 2], 25) := by kernel_rfl
def zan_s (h : api_Header) : Option Bool :=
 (zae_s h).bind fun r1 =>
 (zaq_s h).bind fun r2 =>
 some ((decide (r1.1 = r2.1)) && (decide (r1.2 = r2.2)))
def zan_G : Nat → Option CQ := tblQ [(15, zae_w), (16, zaq_w)]
theorem zan_Gok : ∀ f C, zan_G f = some C → ValidQ Tryd.prog f C := tblQ_valid ⟨zae_ok, zaq_ok, trivial⟩
def zan_L : Nat → SubQ := tblL []
theorem zan_subs : subsOK zan_L zan_G 0 7 25 zan_q := subs_of (show AllSub zan_L zan_G 0 7 25 [] from trivial)
theorem zan_eq (h : api_Header) (R : Type) (k : SV → List SB → Option R) :
  fnQ zan_L zan_G 7 25 zan_q [.tmp 2] [.c (.agg [.val (.int .i64 h.alg), .val (.string h.kid), .val (.string h.typ), .val (.bool h.hasTyp)])] [] k = (zan_s h).bind fun r => k (.c (.o (.val (.bool r)))) [] := by
 simp only [zan_s, -eq_self, bind_cond, bind_gd, Option.bind_assoc, obS, Sum.elim_inl, Sum.elim_inr, bind_elim]
 kernel_rfl
def zan_da := (dCons (dVC (dCA (dCons (dI .i64) (dCons dS (dCons dS (dCons dB dNil)))))) dNil)
def zan_db := (dNil : Dec Unit (List SB))
def zan_c : CS := fun args hp R k => (Dec.d zan_da args).bind fun x => (Dec.d zan_db hp).bind fun y => (zan_s (⟨x.1.1, x.1.2.1, x.1.2.2.1, x.1.2.2.2.1⟩ : api_Header)).bind fun r => k (.c (.o (.val (.bool r)))) []
theorem zan_val : ValidS Tryd.prog 5 zan_c :=
 val_ok zan_chk 7 zan_Gok zan_da zan_db 0 (fun x y R k => (zan_s (⟨x.1.1, x.1.2.1, x.1.2.2.1, x.1.2.2.2.1⟩ : api_Header)).bind fun r => k (.c (.o (.val (.bool r)))) []) (by kernel_rfl)
  (fun x y R k => by simp only [Option.bind_assoc, obS]) (fun x => Nat.le_of_ble_eq_true rfl) (fun y => rfl) zan_subs fun x y => zan_eq (⟨x.1.1, x.1.2.1, x.1.2.2.1, x.1.2.2.2.1⟩ : api_Header) _ _
end
end Go.Proofs.YtekkjbomadoplaaDoor
