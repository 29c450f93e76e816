/-
 Functions as the engine reads them (printed by gen.py).
-/
import Derived.Test.YtdcoiccdbgcpaaaDoorEngO
import Derived.Test.YtdcoiccdbgcpaaaDoorProg
import Derived.Test.YtdcoiccdbgcpaaaDoorUtf8
import Derived.Test.YtdcoiccdbgcpaaaDoorGC
import Derived.Test.YtdcoiccdbgcpaaaDoorJR
import Derived.Test.YtdcoiccdbgcpaaaDoorJS
namespace Go.Proofs.YtdcoiccdbgcpaaaDoor
open Go.Eng
set_option linter.unusedVariables false
set_option linter.unusedSimpArgs false
set_option maxRecDepth 100000
noncomputable section
structure strings_Builder where
 addr : Bool
 buf : (List Int)

/-! ### signet/signetlaw3.lent -/
def zan_q : IQ :=
 (.seq
 (.reg 2 none [
  oP 2 (.mv (.v (.slice none 0 0)))])
 (.seq
 (.reg 3 none [
  oP 4 (.mv (.t 0)),
  oP 5 (.call 32 [(.t 4)]),
  oP 3 (.mv (.t 5))])
 (.seq
 (.reg 3 none [
  oP 6 (.mv (.t 3)),
  oP 7 (.build [.int .i64 0, .string ⟨#[]⟩, .string ⟨#[]⟩, .bool false, .int .i64 0, .int .i64 0] [(0, 1, (.v (.int .i64 91)))]),
  oP 8 (.build [.int .i64 0, .string ⟨#[]⟩, .string ⟨#[]⟩, .bool false, .int .i64 0, .int .i64 0] [(0, 1, (.v (.int .i64 92)))]),
  oP 9 (.bslice 36 6 2 [.int .i64 0, .string ⟨#[]⟩, .string ⟨#[]⟩, .bool false, .int .i64 0, .int .i64 0] [(0, (.t 7)), (1, (.t 8))]),
  oP 10 (.append 36 6 64 [.int .i64 0, .string ⟨#[]⟩, .string ⟨#[]⟩, .bool false, .int .i64 0, .int .i64 0] (.t 6) (.t 9)),
  oP 3 (.mv (.t 10))])
 (.seq
 (.reg 2 none [
  oP 11 (.mv (.t 3)),
  oP 12 (.mv (.t 0)),
  oP 13 (.len (.t 12)),
  oP 14 (.sub (some 6) (.t 11) (some (.v (.int .i64 0))) (some (.t 13))),
  oP 2 (.mv (.t 14))])
 (.canon [(2, none, .node, 36)] [2] .ret)))))
theorem zan_chk : chk Tryd.prog 23 [14] = some (zan_q.erase, [.tmp 2], 15) := by kernel_rfl
def zan_s (v : (List Eng.Node)) : Option ((List Eng.Node) × Nat) :=
 (zbb_s v).bind fun r1 =>
 gd (r1.length + ([(⟨(91 : Int), (⟨#[]⟩ : ByteArray), (⟨#[]⟩ : ByteArray), false, (0 : Int), (0 : Int)⟩ : Eng.Node), (⟨(92 : Int), (⟨#[]⟩ : ByteArray), (⟨#[]⟩ : ByteArray), false, (0 : Int), (0 : Int)⟩ : Eng.Node)] : List Eng.Node).length ≤ 9223372036854775807 ∧ (r1.length + ([(⟨(91 : Int), (⟨#[]⟩ : ByteArray), (⟨#[]⟩ : ByteArray), false, (0 : Int), (0 : Int)⟩ : Eng.Node), (⟨(92 : Int), (⟨#[]⟩ : ByteArray), (⟨#[]⟩ : ByteArray), false, (0 : Int), (0 : Int)⟩ : Eng.Node)] : List Eng.Node).length) * 64 ≤ 140737488355328) <|
 gd (0 ≤ (0 : Int) ∧ (0 : Int) ≤ (v.length : Int) ∧ (v.length : Int) ≤ (r1 ++ [(⟨(91 : Int), (⟨#[]⟩ : ByteArray), (⟨#[]⟩ : ByteArray), false, (0 : Int), (0 : Int)⟩ : Eng.Node), (⟨(92 : Int), (⟨#[]⟩ : ByteArray), (⟨#[]⟩ : ByteArray), false, (0 : Int), (0 : Int)⟩ : Eng.Node)]).length) <|
 some ((r1 ++ [(⟨(91 : Int), (⟨#[]⟩ : ByteArray), (⟨#[]⟩ : ByteArray), false, (0 : Int), (0 : Int)⟩ : Eng.Node), (⟨(92 : Int), (⟨#[]⟩ : ByteArray), (⟨#[]⟩ : ByteArray), false, (0 : Int), (0 : Int)⟩ : Eng.Node)]), (Int.toNat (v.length : Int)))
def zan_G : Nat → Option CQ := tblQ [(32, zbb_w)]
theorem zan_Gok : ∀ f C, zan_G f = some C → ValidQ Tryd.prog f C := tblQ_valid ⟨zbb_ok, trivial⟩
def zan_L : Nat → SubQ := tblL []
theorem zan_subs : subsOK zan_L zan_G 1 4 15 zan_q := subs_of (show AllSub zan_L zan_G 1 4 15 [] from trivial)
theorem zan_eq (v : (List Eng.Node)) (R : Type) (k : SV → List SB → Option R) :
  fnQ zan_L zan_G 4 15 zan_q [.tmp 2] [.c (.o (.own 0))] [.view .node v] k = (zan_s v).bind fun r => k (.c (.o (.own 1))) [.view .node v, .part 2 (0) r.2 6, .row .node 36 r.1] := by
 simp only [zan_s, -eq_self, bind_cond, bind_gd, Option.bind_assoc, obS, Sum.elim_inl, Sum.elim_inr, bind_elim]
 kernel_rfl
def zan_da := (dCons (dVC (dCO (dO 0))) dNil)
def zan_db := (dCons (dView .node) dNil)
def zan_c : CS := fun args hp R k => (Dec.d zan_da args).bind fun x => (Dec.d zan_db hp).bind fun y => (zan_s y.1).bind fun r => k (.c (.o (.own 1))) [.view .node y.1, .part 2 (0) r.2 6, .row .node 36 r.1]
theorem zan_val : ValidS Tryd.prog 23 zan_c :=
 val_ok zan_chk 4 zan_Gok zan_da zan_db 1 (fun x y R k => (zan_s y.1).bind fun r => k (.c (.o (.own 1))) [.view .node y.1, .part 2 (0) r.2 6, .row .node 36 r.1]) (by kernel_rfl)
  (fun x y R k => by simp only [Option.bind_assoc, obS]) (fun x => Nat.le_of_ble_eq_true rfl) (fun y => rfl) zan_subs fun x y => zan_eq y.1 _ _
def zan_w : CQ := prepQ [(0, none, some (.node, 36))] (liftQ [false] zan_c)
theorem zan_ok : ValidQ Tryd.prog 23 zan_w := prep_loud zan_val

/-! ### (*strings.Builder).copyCheck -/
def zbp_q : IQ :=
 (.join [(2000000, some 0, .u8, 0)] []
 (.seq
 (.reg 6 none [
  oP 2 (.mv (.t 0)),
  oP 3 (.ext .nilck [(.t 2)]),
  oP 4 (.faddr 0 (.t 3)),
  oP 5 (.load none (.t 4)),
  oP 6 (.ext (.ptrEq false) [(.t 5), (.v (.pointer none))])])
 (.cond (.t 6)
  (.reg 0 none [
   oP 7 (.mv (.t 0)),
   oP 8 (.mv (.t 0)),
   oP 9 (.ext .toUns [(.t 8)]),
   oP 10 (.ext .noEsc [(.t 9)]),
   oP 11 (.ext (.fromUns 107 2) [(.t 10)]),
   oP 12 (.ext .nilck [(.t 7)]),
   oP 13 (.faddr 0 (.t 12)),
   ⟨none, .store 1 (.t 13) (.t 11), none⟩])
  (.seq
  (.reg 19 none [
   oP 14 (.mv (.t 0)),
   oP 15 (.ext .nilck [(.t 14)]),
   oP 16 (.faddr 0 (.t 15)),
   oP 17 (.load none (.t 16)),
   oP 18 (.mv (.t 0)),
   oP 19 (.ext (.ptrEq true) [(.t 17), (.t 18)])])
  (.cond (.t 19)
   .bad
   .skip)))))
theorem zbp_chk : chk Tryd.prog 146 [] = some (zbp_q.erase, [], 20) := by kernel_rfl
def zbp_s (b : strings_Builder) : Option strings_Builder :=
 bif (!b.addr) then (
  some (⟨true, b.buf⟩ : strings_Builder))
 else (
  bif (!b.addr) then (
   none)
  else (
   some b))
def zbp_G : Nat → Option CQ := tblQ []
theorem zbp_Gok : ∀ f C, zbp_G f = some C → ValidQ Tryd.prog f C := fun f C h => by cases h
def zbp_L : Nat → SubQ := tblL []
theorem zbp_subs : subsOK zbp_L zbp_G 2 2 20 zbp_q := subs_of (show AllSub zbp_L zbp_G 2 2 20 [] from trivial)
theorem zbp_eq (b : strings_Builder) (R : Type) (k : SV → List SB → Option R) :
  fnQ zbp_L zbp_G 2 20 zbp_q [] [.c (.o (.hd 0 0))] [.cells 107 [.opt b.addr 0 0, .own 1], .view .u8 b.buf] k = (zbp_s b).bind fun r => k (.tup []) [.cells 107 [.opt r.addr 0 0, .own 1], .view .u8 b.buf] := by
 simp only [zbp_s, -eq_self, bind_cond, bind_gd, Option.bind_assoc, obS, Sum.elim_inl, Sum.elim_inr, bind_elim]
 kernel_rfl
def zbp_da := (dCons (dVC (dCO (dH 0 0))) dNil)
def zbp_db := (dCons (dCells 107 (dCons (dP 0 0) (dCons (dO 1) dNil))) (dCons (dView .u8) dNil))
def zbp_c : CS := fun args hp R k => (Dec.d zbp_da args).bind fun x => (Dec.d zbp_db hp).bind fun y => (zbp_s (⟨y.1.1, y.2.1⟩ : strings_Builder)).bind fun r => k (.tup []) [.cells 107 [.opt r.addr 0 0, .own 1], .view .u8 y.2.1]
theorem zbp_val : ValidS Tryd.prog 146 zbp_c :=
 val_ok zbp_chk 2 zbp_Gok zbp_da zbp_db 2 (fun x y R k => (zbp_s (⟨y.1.1, y.2.1⟩ : strings_Builder)).bind fun r => k (.tup []) [.cells 107 [.opt r.addr 0 0, .own 1], .view .u8 y.2.1]) (by kernel_rfl)
  (fun x y R k => by simp only [Option.bind_assoc, obS]) (fun x => Nat.le_of_ble_eq_true rfl) (fun y => rfl) zbp_subs fun x y => zbp_eq (⟨y.1.1, y.2.1⟩ : strings_Builder) _ _
def zbp_w : CQ := prepQ [(0, some 0, none), (0, some 1, some (.u8, 5))] (liftQ [true, false] zbp_c)
theorem zbp_ok : ValidQ Tryd.prog 146 zbp_w := prep_loud zbp_val

/-! ### (*strings.Builder).WriteString -/
def zbo_q : IQ :=
 (.seq
 (.reg 5 none [
  oP 4 (.mv (.v (.int .i64 0))),
  oP 5 (.mv (.v (.nilIface)))])
 (.seq
 (.reg 7 none [
  oP 6 (.mv (.t 0)),
  oP 7 (.call 146 [(.t 6)])])
 (.seq
 (.reg 0 none [
  oP 8 (.mv (.t 0)),
  oP 9 (.mv (.t 0)),
  oP 10 (.ext .nilck [(.t 9)]),
  oP 11 (.faddr 1 (.t 10)),
  oP 12 (.load none (.t 11)),
  oP 13 (.mv (.t 1)),
  oP 14 (.ext (.appStr 5) [(.t 12), (.t 13)]),
  oP 15 (.ext .nilck [(.t 8)]),
  oP 16 (.faddr 1 (.t 15)),
  ⟨none, .store 1 (.t 16) (.t 14), none⟩])
 (.seq
 (.reg 5 none [
  oP 17 (.mv (.t 1)),
  oP 18 (.lenS (.t 17)),
  oP 4 (.mv (.t 18)),
  oP 5 (.mv (.v (.nilIface)))])
 (.canon [(2000000, some 0, .u8, 0)] [4, 5] .ret)))))
theorem zbo_chk : chk Tryd.prog 113 [] = some (zbo_q.erase, [.tmp 4, .tmp 5], 19) := by kernel_rfl
def zbo_s (b : strings_Builder) (s : ByteArray) : Option (strings_Builder × Int × Unit) :=
 (zbp_s b).bind fun r3 =>
 gd (b.buf.length + s.size ≤ 140737488355328) <|
 some ((⟨r3.addr, (b.buf ++ (bytesL s))⟩ : strings_Builder), (s.size : Int), ())
def zbo_G : Nat → Option CQ := tblQ [(146, zbp_w)]
theorem zbo_Gok : ∀ f C, zbo_G f = some C → ValidQ Tryd.prog f C := tblQ_valid ⟨zbp_ok, trivial⟩
def zbo_L : Nat → SubQ := tblL []
theorem zbo_subs : subsOK zbo_L zbo_G 2 6 19 zbo_q := subs_of (show AllSub zbo_L zbo_G 2 6 19 [] from trivial)
theorem zbo_eq (b : strings_Builder) (s : ByteArray) (R : Type) (k : SV → List SB → Option R) :
  fnQ zbo_L zbo_G 6 19 zbo_q [.tmp 4, .tmp 5] [.c (.o (.hd 0 0)), .c (.o (.val (.string s)))] [.cells 107 [.opt b.addr 0 0, .own 1], .row .u8 5 b.buf] k = (zbo_s b s).bind fun r => k (.tup [.o (.val (.int .i64 r.2.1)), .o (.val (.nilIface))]) [.cells 107 [.opt r.1.addr 0 0, .own 2], .dead, .row .u8 5 r.1.buf] := by
 simp only [zbo_s, -eq_self, bind_cond, bind_gd, Option.bind_assoc, obS, Sum.elim_inl, Sum.elim_inr, bind_elim]
 kernel_rfl
def zbo_da := (dCons (dVC (dCO (dH 0 0))) (dCons (dVC (dCO dS)) dNil))
def zbo_db := (dCons (dCells 107 (dCons (dP 0 0) (dCons (dO 1) dNil))) (dCons (dRow .u8 5) dNil))
def zbo_c : CS := fun args hp R k => (Dec.d zbo_da args).bind fun x => (Dec.d zbo_db hp).bind fun y => (zbo_s (⟨y.1.1, y.2.1⟩ : strings_Builder) x.2.1).bind fun r => k (.tup [.o (.val (.int .i64 r.2.1)), .o (.val (.nilIface))]) [.cells 107 [.opt r.1.addr 0 0, .own 2], .dead, .row .u8 5 r.1.buf]
theorem zbo_val : ValidS Tryd.prog 113 zbo_c :=
 val_ok zbo_chk 6 zbo_Gok zbo_da zbo_db 2 (fun x y R k => (zbo_s (⟨y.1.1, y.2.1⟩ : strings_Builder) x.2.1).bind fun r => k (.tup [.o (.val (.int .i64 r.2.1)), .o (.val (.nilIface))]) [.cells 107 [.opt r.1.addr 0 0, .own 2], .dead, .row .u8 5 r.1.buf]) (by kernel_rfl)
  (fun x y R k => by simp only [Option.bind_assoc, obS]) (fun x => Nat.le_of_ble_eq_true rfl) (fun y => rfl) zbo_subs fun x y => zbo_eq (⟨y.1.1, y.2.1⟩ : strings_Builder) x.2.1 _ _
def zbo_w : CQ := prepQ [(0, some 0, none), (0, some 1, some (.u8, 5))] (liftQ [true, true] zbo_c)
theorem zbo_ok : ValidQ Tryd.prog 113 zbo_w := prep_loud zbo_val

/-! ### (*strings.Builder).WriteByte -/
def zbn_q : IQ :=
 (.seq
 (.reg 4 none [
  oP 4 (.mv (.v (.nilIface)))])
 (.seq
 (.reg 6 none [
  oP 5 (.mv (.t 0)),
  oP 6 (.call 146 [(.t 5)])])
 (.seq
 (.reg 0 none [
  oP 7 (.mv (.t 0)),
  oP 8 (.mv (.t 0)),
  oP 9 (.ext .nilck [(.t 8)]),
  oP 10 (.faddr 1 (.t 9)),
  oP 11 (.load none (.t 10)),
  oP 12 (.mv (.t 1)),
  oP 13 (.bslice 5 1 1 [.int .u8 0] [(0, (.t 12))]),
  oP 14 (.append 5 1 1 [.int .u8 0] (.t 11) (.t 13)),
  oP 15 (.ext .nilck [(.t 7)]),
  oP 16 (.faddr 1 (.t 15)),
  ⟨none, .store 1 (.t 16) (.t 14), none⟩])
 (.seq
 (.reg 4 none [
  oP 4 (.mv (.v (.nilIface)))])
 (.canon [(2000000, some 0, .u8, 0)] [4] .ret)))))
theorem zbn_chk : chk Tryd.prog 115 [] = some (zbn_q.erase, [.tmp 4], 17) := by kernel_rfl
def zbn_s (b : strings_Builder) (c : Int) : Option (strings_Builder × Unit) :=
 (zbp_s b).bind fun r3 =>
 gd (b.buf.length + ([c] : List Int).length ≤ 9223372036854775807 ∧ (b.buf.length + ([c] : List Int).length) * 1 ≤ 140737488355328) <|
 some ((⟨r3.addr, (b.buf ++ [c])⟩ : strings_Builder), ())
def zbn_G : Nat → Option CQ := tblQ [(146, zbp_w)]
theorem zbn_Gok : ∀ f C, zbn_G f = some C → ValidQ Tryd.prog f C := tblQ_valid ⟨zbp_ok, trivial⟩
def zbn_L : Nat → SubQ := tblL []
theorem zbn_subs : subsOK zbn_L zbn_G 2 5 17 zbn_q := subs_of (show AllSub zbn_L zbn_G 2 5 17 [] from trivial)
theorem zbn_eq (b : strings_Builder) (c : Int) (R : Type) (k : SV → List SB → Option R) :
  fnQ zbn_L zbn_G 5 17 zbn_q [.tmp 4] [.c (.o (.hd 0 0)), .c (.o (.val (.int .u8 c)))] [.cells 107 [.opt b.addr 0 0, .own 1], .row .u8 5 b.buf] k = (zbn_s b c).bind fun r => k (.c (.o (.val (.nilIface)))) [.cells 107 [.opt r.1.addr 0 0, .own 2], .dead, .row .u8 5 r.1.buf] := by
 simp only [zbn_s, -eq_self, bind_cond, bind_gd, Option.bind_assoc, obS, Sum.elim_inl, Sum.elim_inr, bind_elim]
 kernel_rfl
def zbn_da := (dCons (dVC (dCO (dH 0 0))) (dCons (dVC (dCO (dI .u8))) dNil))
def zbn_db := (dCons (dCells 107 (dCons (dP 0 0) (dCons (dO 1) dNil))) (dCons (dRow .u8 5) dNil))
def zbn_c : CS := fun args hp R k => (Dec.d zbn_da args).bind fun x => (Dec.d zbn_db hp).bind fun y => (zbn_s (⟨y.1.1, y.2.1⟩ : strings_Builder) x.2.1).bind fun r => k (.c (.o (.val (.nilIface)))) [.cells 107 [.opt r.1.addr 0 0, .own 2], .dead, .row .u8 5 r.1.buf]
theorem zbn_val : ValidS Tryd.prog 115 zbn_c :=
 val_ok zbn_chk 5 zbn_Gok zbn_da zbn_db 2 (fun x y R k => (zbn_s (⟨y.1.1, y.2.1⟩ : strings_Builder) x.2.1).bind fun r => k (.c (.o (.val (.nilIface)))) [.cells 107 [.opt r.1.addr 0 0, .own 2], .dead, .row .u8 5 r.1.buf]) (by kernel_rfl)
  (fun x y R k => by simp only [Option.bind_assoc, obS]) (fun x => Nat.le_of_ble_eq_true rfl) (fun y => rfl) zbn_subs fun x y => zbn_eq (⟨y.1.1, y.2.1⟩ : strings_Builder) x.2.1 _ _
def zbn_w : CQ := prepQ [(0, some 0, none), (0, some 1, some (.u8, 5))] (liftQ [true, true] zbn_c)
theorem zbn_ok : ValidQ Tryd.prog 115 zbn_w := prep_loud zbn_val

/-! ### internal/stringslite.IndexByte -/
def zag_q : IQ :=
 (.seq
 (.reg 4 none [
  oP 4 (.mv (.v (.int .i64 0)))])
 (.seq
 (.reg 4 none [
  oP 5 (.mv (.t 0)),
  oP 6 (.mv (.t 1)),
  oP 7 (.ext .idxByte [(.t 5), (.t 6)]),
  oP 4 (.mv (.t 7))])
 (.canon [] [4] .ret)))
theorem zag_chk : chk Tryd.prog 169 [] = some (zag_q.erase, [.tmp 4], 8) := by kernel_rfl
def zag_s (s : ByteArray) (c : Int) : Option Int :=
 some (Lib.indexByte s.data.toList (Int.toNat c).toUInt8)
def zag_G : Nat → Option CQ := tblQ []
theorem zag_Gok : ∀ f C, zag_G f = some C → ValidQ Tryd.prog f C := fun f C h => by cases h
def zag_L : Nat → SubQ := tblL []
theorem zag_subs : subsOK zag_L zag_G 0 5 8 zag_q := subs_of (show AllSub zag_L zag_G 0 5 8 [] from trivial)
theorem zag_eq (s : ByteArray) (c : Int) (R : Type) (k : SV → List SB → Option R) :
  fnQ zag_L zag_G 5 8 zag_q [.tmp 4] [.c (.o (.val (.string s))), .c (.o (.val (.int .u8 c)))] [] k = (zag_s s c).bind fun r => k (.c (.o (.val (.int .i64 r)))) [] := by
 simp only [zag_s, -eq_self, bind_cond, bind_gd, Option.bind_assoc, obS, Sum.elim_inl, Sum.elim_inr, bind_elim]
 kernel_rfl
def zag_da := (dCons (dVC (dCO dS)) (dCons (dVC (dCO (dI .u8))) dNil))
def zag_db := (dNil : Dec Unit (List SB))
def zag_c : CS := fun args hp R k => (Dec.d zag_da args).bind fun x => (Dec.d zag_db hp).bind fun y => (zag_s x.1 x.2.1).bind fun r => k (.c (.o (.val (.int .i64 r)))) []
theorem zag_val : ValidS Tryd.prog 169 zag_c :=
 val_ok zag_chk 5 zag_Gok zag_da zag_db 0 (fun x y R k => (zag_s x.1 x.2.1).bind fun r => k (.c (.o (.val (.int .i64 r)))) []) (by kernel_rfl)
  (fun x y R k => by simp only [Option.bind_assoc, obS]) (fun x => Nat.le_of_ble_eq_true rfl) (fun y => rfl) zag_subs fun x y => zag_eq x.1 x.2.1 _ _
def zag_w : CQ := liftV [] zag_c
theorem zag_ok : ValidQ Tryd.prog 169 zag_w := liftV_valid zag_val

/-! ### strings.IndexByte -/
def zbr_q : IQ :=
 (.seq
 (.reg 4 none [
  oP 4 (.mv (.v (.int .i64 0)))])
 (.seq
 (.reg 4 none [
  oP 5 (.mv (.t 0)),
  oP 6 (.mv (.t 1)),
  oP 7 (.call 169 [(.t 5), (.t 6)]),
  oP 4 (.mv (.t 7))])
 (.canon [] [4] .ret)))
theorem zbr_chk : chk Tryd.prog 147 [] = some (zbr_q.erase, [.tmp 4], 8) := by kernel_rfl
def zbr_s (s : ByteArray) (c : Int) : Option Int :=
 (zag_s s c).bind fun r1 =>
 some r1
def zbr_G : Nat → Option CQ := tblQ [(169, zag_w)]
theorem zbr_Gok : ∀ f C, zbr_G f = some C → ValidQ Tryd.prog f C := tblQ_valid ⟨zag_ok, trivial⟩
def zbr_L : Nat → SubQ := tblL []
theorem zbr_subs : subsOK zbr_L zbr_G 0 5 8 zbr_q := subs_of (show AllSub zbr_L zbr_G 0 5 8 [] from trivial)
theorem zbr_eq (s : ByteArray) (c : Int) (R : Type) (k : SV → List SB → Option R) :
  fnQ zbr_L zbr_G 5 8 zbr_q [.tmp 4] [.c (.o (.val (.string s))), .c (.o (.val (.int .u8 c)))] [] k = (zbr_s s c).bind fun r => k (.c (.o (.val (.int .i64 r)))) [] := by
 simp only [zbr_s, -eq_self, bind_cond, bind_gd, Option.bind_assoc, obS, Sum.elim_inl, Sum.elim_inr, bind_elim]
 kernel_rfl
def zbr_da := (dCons (dVC (dCO dS)) (dCons (dVC (dCO (dI .u8))) dNil))
def zbr_db := (dNil : Dec Unit (List SB))
def zbr_c : CS := fun args hp R k => (Dec.d zbr_da args).bind fun x => (Dec.d zbr_db hp).bind fun y => (zbr_s x.1 x.2.1).bind fun r => k (.c (.o (.val (.int .i64 r)))) []
theorem zbr_val : ValidS Tryd.prog 147 zbr_c :=
 val_ok zbr_chk 5 zbr_Gok zbr_da zbr_db 0 (fun x y R k => (zbr_s x.1 x.2.1).bind fun r => k (.c (.o (.val (.int .i64 r)))) []) (by kernel_rfl)
  (fun x y R k => by simp only [Option.bind_assoc, obS]) (fun x => Nat.le_of_ble_eq_true rfl) (fun y => rfl) zbr_subs fun x y => zbr_eq x.1 x.2.1 _ _
def zbr_w : CQ := liftV [] zbr_c
theorem zbr_ok : ValidQ Tryd.prog 147 zbr_w := liftV_valid zbr_val

/-! ### signet/json.quote -/
def zak_b0 : IQ :=
 (.loop [0, 1, 4, 11, 12]
  (.seq
  (.reg 13 none [
   oP 13 (.bin false .lss (.t 12) (.t 11))])
  (.seq
  (.cond (.t 13)
   .skip
   (.canon [] [0, 1, 4] (.exit 0)))
  (.seq
  (.block 1
   (.seq
   (.reg 5 none [
    oP 14 (.mv (.t 12)),
    oP 5 (.mv (.t 14))])
   (.seq
   (.reg 6 none [
    oP 15 (.mv (.t 1)),
    oP 16 (.mv (.t 5)),
    oP 17 (.index (.t 15) (.t 16)),
    oP 6 (.mv (.t 17))])
   (.seq
   (.seq
   (.reg 27 none [
    oP 18 (.mv (.t 6)),
    oP 19 (.bin false .geq (.t 18) (.v (.int .u8 32))),
    oP 20 (.mv (.t 19)),
    oG 21 (.mv (.t 6)) 20 true,
    oG 22 (.bin false .neq (.t 21) (.v (.int .u8 34))) 20 true,
    oP 23 (.pick (.t 20) (.t 22) (.v (.bool false))),
    oP 24 (.mv (.t 23)),
    oG 25 (.mv (.t 6)) 24 true,
    oG 26 (.bin false .neq (.t 25) (.v (.int .u8 92))) 24 true,
    oP 27 (.pick (.t 24) (.t 26) (.v (.bool false)))])
   (.cond (.t 27)
    (.exit 1)
    .skip))
   (.seq
   (.reg 33 none [
    oP 28 (.mv (.t 0)),
    oP 29 (.mv (.t 1)),
    oP 30 (.mv (.t 4)),
    oP 31 (.mv (.t 5)),
    oP 32 (.sub none (.t 29) (some (.t 30)) (some (.t 31))),
    oP 33 (.call 113 [(.t 28), (.t 32)])])
   (.seq
   (.reg 4 none [
    oP 34 (.mv (.t 5)),
    oP 35 (.bin false .add (.t 34) (.v (.int .i64 1))),
    oP 4 (.mv (.t 35))])
   (.seq
   (.reg 7 none [
    oP 36 (.mv (.t 6)),
    oP 37 (.call 147 [(.v (.string ⟨#[8, 12, 10, 13, 9, 34, 92]⟩)), (.t 36)]),
    oP 7 (.mv (.t 37))])
   (.seq
   (.reg 39 none [
    oP 38 (.mv (.t 7)),
    oP 39 (.bin false .geq (.t 38) (.v (.int .i64 0)))])
   (.cond (.t 39)
    (.reg 46 none [
     oP 40 (.mv (.t 0)),
     oP 41 (.mv (.t 7)),
     oP 42 (.mv (.t 7)),
     oP 43 (.bin false .add (.t 42) (.v (.int .i64 1))),
     oP 44 (.sub none (.v (.string ⟨#[98, 102, 110, 114, 116, 34, 92]⟩)) (some (.t 41)) (some (.t 43))),
     oP 45 (.bin false .add (.v (.string ⟨#[92]⟩)) (.t 44)),
     oP 46 (.call 113 [(.t 40), (.t 45)])])
    (.reg 62 (some [0, 1, 2, 3, 4, 5, 6, 7, 8, 9, 10, 11, 12, 13, 14, 15]) [
     oP 47 (.mv (.t 0)),
     oP 48 (.mv (.t 6)),
     oP 49 (.bin false .shr (.t 48) (.v (.int .u64 4))),
     oP 50 (.mv (.t 6)),
     oP 51 (.bin false .shr (.t 50) (.v (.int .u64 4))),
     oP 52 (.bin false .add (.t 51) (.v (.int .u8 1))),
     oP 53 (.sub none (.v (.string ⟨#[48, 49, 50, 51, 52, 53, 54, 55, 56, 57, 97, 98, 99, 100, 101, 102]⟩)) (some (.t 49)) (some (.t 52))),
     oP 54 (.bin false .add (.v (.string ⟨#[92, 117, 48, 48]⟩)) (.t 53)),
     oP 55 (.mv (.t 6)),
     oP 56 (.bin false .and (.t 55) (.v (.int .u8 15))),
     oP 57 (.mv (.t 6)),
     oP 58 (.bin false .and (.t 57) (.v (.int .u8 15))),
     oP 59 (.bin false .add (.t 58) (.v (.int .u8 1))),
     oP 60 (.sub none (.v (.string ⟨#[48, 49, 50, 51, 52, 53, 54, 55, 56, 57, 97, 98, 99, 100, 101, 102]⟩)) (some (.t 56)) (some (.t 59))),
     oP 61 (.bin false .add (.t 54) (.t 60)),
     oP 62 (.callL 113 [(.t 47), (.t 61)])]))))))))))
  (.reg 12 none [
   oP 63 (.bin false .add (.t 12) (.v (.int .i64 1))),
   oP 12 (.mv (.t 63))])))))
def zak_q : IQ :=
 (.join [(2000000, some 0, .u8, 0)] []
 (.seq
 (.reg 9 none [
  oP 8 (.mv (.t 0)),
  oP 9 (.call 115 [(.t 8), (.v (.int .u8 34))])])
 (.seq
 (.reg 4 none [
  oP 4 (.mv (.v (.int .i64 0)))])
 (.seq
 (.seq
 (.reg 12 none [
  oP 10 (.mv (.t 1)),
  oP 11 (.lenS (.t 10)),
  oP 12 (.mv (.v (.int .i64 0)))])
 (.block 0
  (.canon [] [0, 1, 4, 11, 12] (.sub 0 zak_b0))))
 (.reg 69 none [
  oP 64 (.mv (.t 0)),
  oP 65 (.mv (.t 1)),
  oP 66 (.mv (.t 4)),
  oP 67 (.sub none (.t 65) (some (.t 66)) none),
  oP 68 (.bin false .add (.t 67) (.v (.string ⟨#[34]⟩))),
  oP 69 (.call 113 [(.t 64), (.t 68)])])))))
theorem zak_chk : chk Tryd.prog 114 [62] = some (zak_q.erase, [], 70) := by kernel_rfl
def zak_p0_step (s : ByteArray) (from_ : Int) (x11_ : Int) (x12_ : Int) (b_addr : Bool) (b_buf : List Int) : Option ((Int × Int × Bool × (List Int)) ⊕ (Int × Bool × (List Int))) :=
 bif decide (x12_ < x11_) then (
  gd (0 ≤ x12_ ∧ x12_ < s.size) <|
  bif (((decide ((32 : Int) ≤ (bAt s x12_))) && (!decide ((bAt s x12_) = (34 : Int)))) && (!decide ((bAt s x12_) = (92 : Int)))) then (
   gd (InI64 (x12_ + (1 : Int))) <|
   some (.inl (from_, (x12_ + (1 : Int)), b_addr, b_buf)))
  else (
   gd (0 ≤ from_ ∧ from_ ≤ x12_ ∧ x12_ ≤ s.size) <|
   (zbo_s (⟨b_addr, b_buf⟩ : strings_Builder) (s.extract (Int.toNat from_) (Int.toNat x12_))).bind fun r22 =>
   gd (InI64 (x12_ + (1 : Int))) <|
   (zbr_s (⟨#[8, 12, 10, 13, 9, 34, 92]⟩ : ByteArray) (bAt s x12_)).bind fun r23 =>
   bif decide ((0 : Int) ≤ r23) then (
    gd (InI64 (r23 + (1 : Int))) <|
    gd (0 ≤ r23 ∧ r23 ≤ (r23 + (1 : Int)) ∧ (r23 + (1 : Int)) ≤ (⟨#[98, 102, 110, 114, 116, 34, 92]⟩ : ByteArray).size) <|
    gd ((⟨#[92]⟩ : ByteArray).size + ((⟨#[98, 102, 110, 114, 116, 34, 92]⟩ : ByteArray).extract (Int.toNat r23) (Int.toNat (r23 + (1 : Int)))).size ≤ 9223372036854775807) <|
    (zbo_s r22.1 ((⟨#[92]⟩ : ByteArray) ++ ((⟨#[98, 102, 110, 114, 116, 34, 92]⟩ : ByteArray).extract (Int.toNat r23) (Int.toNat (r23 + (1 : Int)))))).bind fun r24 =>
    gd (InI64 (x12_ + (1 : Int))) <|
    some (.inl ((x12_ + (1 : Int)), (x12_ + (1 : Int)), r24.1.addr, r24.1.buf)))
   else (
    gd (0 ≤ (4 : Int)) <|
    gd (0 ≤ (4 : Int)) <|
    gd (0 ≤ ((bAt s x12_) / 16) ∧ ((bAt s x12_) / 16) ≤ ((((bAt s x12_) / 16) + (1 : Int)) % 256) ∧ ((((bAt s x12_) / 16) + (1 : Int)) % 256) ≤ (⟨#[48, 49, 50, 51, 52, 53, 54, 55, 56, 57, 97, 98, 99, 100, 101, 102]⟩ : ByteArray).size) <|
    gd ((⟨#[92, 117, 48, 48]⟩ : ByteArray).size + ((⟨#[48, 49, 50, 51, 52, 53, 54, 55, 56, 57, 97, 98, 99, 100, 101, 102]⟩ : ByteArray).extract (Int.toNat ((bAt s x12_) / 16)) (Int.toNat ((((bAt s x12_) / 16) + (1 : Int)) % 256))).size ≤ 9223372036854775807) <|
    gd (0 ≤ (bitAnd .u8 (bAt s x12_) (15 : Int)) ∧ (bitAnd .u8 (bAt s x12_) (15 : Int)) ≤ (((bitAnd .u8 (bAt s x12_) (15 : Int)) + (1 : Int)) % 256) ∧ (((bitAnd .u8 (bAt s x12_) (15 : Int)) + (1 : Int)) % 256) ≤ (⟨#[48, 49, 50, 51, 52, 53, 54, 55, 56, 57, 97, 98, 99, 100, 101, 102]⟩ : ByteArray).size) <|
    gd (((⟨#[92, 117, 48, 48]⟩ : ByteArray) ++ ((⟨#[48, 49, 50, 51, 52, 53, 54, 55, 56, 57, 97, 98, 99, 100, 101, 102]⟩ : ByteArray).extract (Int.toNat ((bAt s x12_) / 16)) (Int.toNat ((((bAt s x12_) / 16) + (1 : Int)) % 256)))).size + ((⟨#[48, 49, 50, 51, 52, 53, 54, 55, 56, 57, 97, 98, 99, 100, 101, 102]⟩ : ByteArray).extract (Int.toNat (bitAnd .u8 (bAt s x12_) (15 : Int))) (Int.toNat (((bitAnd .u8 (bAt s x12_) (15 : Int)) + (1 : Int)) % 256))).size ≤ 9223372036854775807) <|
    (zbo_s r22.1 (((⟨#[92, 117, 48, 48]⟩ : ByteArray) ++ ((⟨#[48, 49, 50, 51, 52, 53, 54, 55, 56, 57, 97, 98, 99, 100, 101, 102]⟩ : ByteArray).extract (Int.toNat ((bAt s x12_) / 16)) (Int.toNat ((((bAt s x12_) / 16) + (1 : Int)) % 256)))) ++ ((⟨#[48, 49, 50, 51, 52, 53, 54, 55, 56, 57, 97, 98, 99, 100, 101, 102]⟩ : ByteArray).extract (Int.toNat (bitAnd .u8 (bAt s x12_) (15 : Int))) (Int.toNat (((bitAnd .u8 (bAt s x12_) (15 : Int)) + (1 : Int)) % 256))))).bind fun r25 =>
    gd (InI64 (x12_ + (1 : Int))) <|
    some (.inl ((x12_ + (1 : Int)), (x12_ + (1 : Int)), r25.1.addr, r25.1.buf)))))
 else (
  some (.inr (from_, b_addr, b_buf)))
def zak_p0 (s : ByteArray) (from_ : Int) (x11_ : Int) (x12_ : Int) (b_addr : Bool) (b_buf : List Int) : Option (Int × Bool × (List Int)) :=
 whileO (fun x : (Int × Int × Bool × (List Int)) => zak_p0_step s x.1 x11_ x.2.1 x.2.2.1 x.2.2.2) (from_, x12_, b_addr, b_buf)
def zak_s (b : strings_Builder) (s : ByteArray) : Option strings_Builder :=
 (zbn_s b (34 : Int)).bind fun r21 =>
 (zak_p0 s (0 : Int) (s.size : Int) (0 : Int) r21.1.addr r21.1.buf).bind fun o26 =>
 gd (0 ≤ o26.1 ∧ o26.1 ≤ (s.size : Int) ∧ (s.size : Int) ≤ s.size) <|
 gd ((s.extract (Int.toNat o26.1) s.size).size + (⟨#[34]⟩ : ByteArray).size ≤ 9223372036854775807) <|
 (zbo_s (⟨o26.2.1, o26.2.2⟩ : strings_Builder) ((s.extract (Int.toNat o26.1) s.size) ++ (⟨#[34]⟩ : ByteArray))).bind fun r27 =>
 some r27.1
def zak_G : Nat → Option CQ := tblQ [(115, zbn_w), (113, zbo_w), (147, zbr_w)]
theorem zak_Gok : ∀ f C, zak_G f = some C → ValidQ Tryd.prog f C := tblQ_valid ⟨zbn_ok, zbo_ok, zbr_ok, trivial⟩
def zak_d0 := (dQS (dCons (dSl 0 (dVC (dCO (dH 0 0)))) (dCons (dSl 1 (dVC (dCO dS))) (dCons (dSl 4 (dVC (dCO (dI .i64)))) (dCons (dSl 11 (dVC (dCO (dI .i64)))) (dCons (dSl 12 (dVC (dCO (dI .i64)))) dNil))))) (dCons (dCells 107 (dCons (dP 0 0) (dCons (dO 2) dNil))) (dCons dDead (dCons (dRow .u8 5) dNil))))
def zak_l0 : SubQ := fun S R kn kx kr => (Dec.d zak_d0 S).bind fun x => (zak_p0 x.1.2.1 x.1.2.2.1 x.1.2.2.2.1 x.1.2.2.2.2.1 x.2.1.1 x.2.2.2.1).bind fun r => kx 0 ⟨[(0, [], .c (.o (.hd 0 0))), (1, [], .c (.o (.val (.string x.1.2.1)))), (4, [], .c (.o (.val (.int .i64 r.1))))], [], [.cells 107 [.opt r.2.1 0 0, .own 2], .dead, .row .u8 5 r.2.2]⟩
def zak_L : Nat → SubQ := tblL [(0, zak_l0)]
theorem zak_p0_eq (s : ByteArray) (from_ : Int) (x11_ : Int) (x12_ : Int) (b_addr : Bool) (b_buf : List Int) (R : Type) (kn : QS → Option R) (kx : Nat → QS → Option R) (kr : QS → Option R) :
  interpQ zak_L zak_G 2 13 70 zak_b0 ⟨[(0, [], .c (.o (.hd 0 0))), (1, [], .c (.o (.val (.string s)))), (4, [], .c (.o (.val (.int .i64 from_)))), (11, [], .c (.o (.val (.int .i64 x11_)))), (12, [], .c (.o (.val (.int .i64 x12_))))], [], [.cells 107 [.opt b_addr 0 0, .own 2], .dead, .row .u8 5 b_buf]⟩ kn kx kr = (zak_p0 s from_ x11_ x12_ b_addr b_buf).bind fun r => kx 0 ⟨[(0, [], .c (.o (.hd 0 0))), (1, [], .c (.o (.val (.string s)))), (4, [], .c (.o (.val (.int .i64 r.1))))], [], [.cells 107 [.opt r.2.1 0 0, .own 2], .dead, .row .u8 5 r.2.2]⟩ := by
 refine loop_piece (step := fun x => zak_p0_step s x.1 x11_ x.2.1 x.2.2.1 x.2.2.2) (enc := fun x => ⟨[(0, [], .c (.o (.hd 0 0))), (1, [], .c (.o (.val (.string s)))), (4, [], .c (.o (.val (.int .i64 x.1)))), (11, [], .c (.o (.val (.int .i64 x11_)))), (12, [], .c (.o (.val (.int .i64 x.2.1))))], [], [.cells 107 [.opt x.2.2.1 0 0, .own 2], .dead, .row .u8 5 x.2.2.2]⟩) (ko := fun r => kx 0 ⟨[(0, [], .c (.o (.hd 0 0))), (1, [], .c (.o (.val (.string s)))), (4, [], .c (.o (.val (.int .i64 r.1))))], [], [.cells 107 [.opt r.2.1 0 0, .own 2], .dead, .row .u8 5 r.2.2]⟩) ?_ ?_ (from_, x12_, b_addr, b_buf)
 ·intro x; kernel_rfl
 ·intro x ki; simp only [zak_p0_step, -eq_self, bind_cond, bind_gd, Option.bind_assoc, obS, Sum.elim_inl, Sum.elim_inr, bind_elim]; kernel_rfl
theorem zak_sub0 : SubOK zak_L zak_G 2 13 70 0 zak_b0 := sub_ok' zak_d0 (fun x R kn kx kr => (zak_p0 x.1.2.1 x.1.2.2.1 x.1.2.2.2.1 x.1.2.2.2.2.1 x.2.1.1 x.2.2.2.1).bind fun r => kx 0 ⟨[(0, [], .c (.o (.hd 0 0))), (1, [], .c (.o (.val (.string x.1.2.1)))), (4, [], .c (.o (.val (.int .i64 r.1))))], [], [.cells 107 [.opt r.2.1 0 0, .own 2], .dead, .row .u8 5 r.2.2]⟩) (by kernel_rfl) fun x R kn kx kr => zak_p0_eq x.1.2.1 x.1.2.2.1 x.1.2.2.2.1 x.1.2.2.2.2.1 x.2.1.1 x.2.2.2.1 R kn kx kr
theorem zak_subs : subsOK zak_L zak_G 2 13 70 zak_q := subs_of (show AllSub zak_L zak_G 2 13 70 [(0, zak_b0)] from ⟨zak_sub0, trivial⟩)
theorem zak_eq (b : strings_Builder) (s : ByteArray) (R : Type) (k : SV → List SB → Option R) :
  fnQ zak_L zak_G 13 70 zak_q [] [.c (.o (.hd 0 0)), .c (.o (.val (.string s)))] [.cells 107 [.opt b.addr 0 0, .own 1], .row .u8 5 b.buf] k = (zak_s b s).bind fun r => k (.tup []) [.cells 107 [.opt r.addr 0 0, .own 2], .dead, .row .u8 5 r.buf] := by
 simp only [zak_s, -eq_self, bind_cond, bind_gd, Option.bind_assoc, obS, Sum.elim_inl, Sum.elim_inr, bind_elim]
 kernel_rfl
def zak_da := (dCons (dVC (dCO (dH 0 0))) (dCons (dVC (dCO dS)) dNil))
def zak_db := (dCons (dCells 107 (dCons (dP 0 0) (dCons (dO 1) dNil))) (dCons (dRow .u8 5) dNil))
def zak_c : CS := fun args hp R k => (Dec.d zak_da args).bind fun x => (Dec.d zak_db hp).bind fun y => (zak_s (⟨y.1.1, y.2.1⟩ : strings_Builder) x.2.1).bind fun r => k (.tup []) [.cells 107 [.opt r.addr 0 0, .own 2], .dead, .row .u8 5 r.buf]
theorem zak_val : ValidS Tryd.prog 114 zak_c :=
 val_ok zak_chk 13 zak_Gok zak_da zak_db 2 (fun x y R k => (zak_s (⟨y.1.1, y.2.1⟩ : strings_Builder) x.2.1).bind fun r => k (.tup []) [.cells 107 [.opt r.addr 0 0, .own 2], .dead, .row .u8 5 r.buf]) (by kernel_rfl)
  (fun x y R k => by simp only [Option.bind_assoc, obS]) (fun x => Nat.le_of_ble_eq_true rfl) (fun y => rfl) zak_subs fun x y => zak_eq (⟨y.1.1, y.2.1⟩ : strings_Builder) x.2.1 _ _
def zak_w : CQ := prepQ [(0, some 0, none), (0, some 1, some (.u8, 5))] (liftQ [true, true] zak_c)
theorem zak_ok : ValidQ Tryd.prog 114 zak_w := prep_loud zak_val

/-! ### a group that calls itself: signet/json.spelled -/
def zal_da := (dCons (dVC (dCO (dH 0 0))) (dCons (dVC (dCO (dO 1))) (dCons (dVC (dCO (dI .i64))) dNil)))
def zal_db := (dCons (dCells 107 (dCons (dP 0 0) (dCons (dO 2) dNil))) (dCons (dView .node) (dCons (dRow .u8 5) dNil)))
def zal_cs (self : strings_Builder → (List Eng.Node) → Int → Option (strings_Builder × Int)) : CS := fun args hp R k => (Dec.d zal_da args).bind fun x => (Dec.d zal_db hp).bind fun y => (self (⟨y.1.1, y.2.2.1⟩ : strings_Builder) y.2.1 x.2.2.1).bind fun r => k (.c (.o (.val (.int .i64 r.2)))) [.cells 107 [.opt r.1.addr 0 0, .own 3], .view .node y.2.1, .dead, .row .u8 5 r.1.buf]
def zal_ws (self : strings_Builder → (List Eng.Node) → Int → Option (strings_Builder × Int)) : CQ := prepQ [(0, some 0, none), (0, some 1, some (.u8, 5)), (1, none, some (.node, 36))] (liftQ [true, false, true] (zal_cs self))

/-! ### signet/json.spelled -/
def zal_b2 : IQ :=
 (.join [] [0, 1, 2, 7, 8, 26, 27]
 (.seq
 (.seq
 (.reg 36 none [
  oP 34 (.faddr 0 (.t 7)),
  oP 35 (.load none (.t 34)),
  oP 36 (.bin false .eql (.t 35) (.v (.int .i64 7)))])
 (.cond (.t 36)
  (.seq
  (.reg 43 none [
   oP 37 (.mv (.t 0)),
   oP 38 (.mv (.t 1)),
   oP 39 (.mv (.t 2)),
   oP 40 (.iaddr 6 (.t 38) (.t 39)),
   oP 41 (.faddr 1 (.t 40)),
   oP 42 (.load none (.t 41)),
   oP 43 (.call 114 [(.t 37), (.t 42)])])
  (.reg 45 none [
   oP 44 (.mv (.t 0)),
   oP 45 (.call 115 [(.t 44), (.v (.int .u8 58))])]))
  .skip))
 (.reg 2 none [
  oP 46 (.mv (.t 0)),
  oP 47 (.mv (.t 1)),
  oP 48 (.mv (.t 2)),
  oP 49 (.call 80 [(.t 46), (.t 47), (.t 48)]),
  oP 2 (.mv (.t 49))])))
def zal_b1 : IQ :=
 (.loop [0, 1, 2, 7, 8, 26, 27]
  (.seq
  (.reg 28 none [
   oP 28 (.bin false .lss (.t 27) (.t 26))])
  (.seq
  (.cond (.t 28)
   .skip
   (.canon [] [0, 2, 8] (.exit 1)))
  (.seq
  (.block 2
   (.seq
   (.reg 9 none [
    oP 29 (.mv (.t 27)),
    oP 9 (.mv (.t 29))])
   (.seq
   (.seq
   (.reg 31 none [
    oP 30 (.mv (.t 9)),
    oP 31 (.bin false .gtr (.t 30) (.v (.int .i64 0)))])
   (.cond (.t 31)
    (.reg 33 none [
     oP 32 (.mv (.t 0)),
     oP 33 (.call 115 [(.t 32), (.v (.int .u8 44))])])
    .skip))
   (.canon [] [0, 1, 2, 7, 8, 26, 27] (.sub 2 zal_b2)))))
  (.reg 27 none [
   oP 50 (.bin false .add (.t 27) (.v (.int .i64 1))),
   oP 27 (.mv (.t 50))])))))
def zal_b0 : IQ :=
 (.join [] [0, 2]
 (.seq
 (.reg 24 none [
  oP 21 (.mv (.t 0)),
  oP 22 (.mv (.t 8)),
  oP 23 (.index (.t 22) (.v (.int .i64 0))),
  oP 24 (.call 115 [(.t 21), (.t 23)])])
 (.seq
 (.seq
 (.reg 27 none [
  oP 25 (.faddr 5 (.t 7)),
  oP 26 (.load none (.t 25)),
  oP 27 (.mv (.v (.int .i64 0)))])
 (.block 1
  (.canon [] [0, 1, 2, 7, 8, 26, 27] (.sub 1 zal_b1))))
 (.reg 54 none [
  oP 51 (.mv (.t 0)),
  oP 52 (.mv (.t 8)),
  oP 53 (.index (.t 52) (.v (.int .i64 1))),
  oP 54 (.call 115 [(.t 51), (.t 53)])]))))
def zal_q : IQ :=
 (.seq
 (.reg 6 none [
  oP 6 (.mv (.v (.int .i64 0)))])
 (.seq
 (.reg 0 none [
  oP 10 (.mv (.t 1)),
  oP 11 (.mv (.t 2)),
  oP 12 (.iaddr 6 (.t 10) (.t 11)),
  oP 13 (.load (some 6) (.t 12)),
  oP 7 (.alloc 36 [.int .i64 0, .string ⟨#[]⟩, .string ⟨#[]⟩, .bool false, .int .i64 0, .int .i64 0]),
  ⟨none, .store 6 (.t 7) (.t 13), none⟩])
 (.seq
 (.reg 2 none [
  oP 14 (.mv (.t 2)),
  oP 15 (.bin false .add (.t 14) (.v (.int .i64 1))),
  oP 2 (.mv (.t 15))])
 (.seq
 (.seq
 (.reg 17 none [
  oP 16 (.faddr 0 (.t 7)),
  oP 17 (.load none (.t 16))])
 (.block 0
  (.seq
  (.reg 55 none [
   oP 56 (.bin false .eql (.t 17) (.v (.int .i64 1))),
   oP 55 (.mv (.t 56))])
  (.cond (.t 55)
   (.reg 58 none [
    oP 57 (.mv (.t 0)),
    oP 58 (.call 113 [(.t 57), (.v (.string ⟨#[110, 117, 108, 108]⟩))])])
   (.seq
   (.reg 59 none [
    oP 60 (.bin false .eql (.t 17) (.v (.int .i64 2))),
    oP 59 (.mv (.t 60))])
   (.cond (.t 59)
    (.reg 62 none [
     oP 61 (.mv (.t 0)),
     oP 62 (.call 113 [(.t 61), (.v (.string ⟨#[102, 97, 108, 115, 101]⟩))])])
    (.seq
    (.reg 63 none [
     oP 64 (.bin false .eql (.t 17) (.v (.int .i64 3))),
     oP 63 (.mv (.t 64))])
    (.cond (.t 63)
     (.reg 66 none [
      oP 65 (.mv (.t 0)),
      oP 66 (.call 113 [(.t 65), (.v (.string ⟨#[116, 114, 117, 101]⟩))])])
     (.seq
     (.reg 67 none [
      oP 68 (.bin false .eql (.t 17) (.v (.int .i64 4))),
      oP 67 (.mv (.t 68))])
     (.cond (.t 67)
      (.reg 72 none [
       oP 69 (.mv (.t 0)),
       oP 70 (.faddr 2 (.t 7)),
       oP 71 (.load none (.t 70)),
       oP 72 (.call 113 [(.t 69), (.t 71)])])
      (.seq
      (.reg 73 none [
       oP 74 (.bin false .eql (.t 17) (.v (.int .i64 5))),
       oP 73 (.mv (.t 74))])
      (.cond (.t 73)
       (.reg 78 none [
        oP 75 (.mv (.t 0)),
        oP 76 (.faddr 2 (.t 7)),
        oP 77 (.load none (.t 76)),
        oP 78 (.call 114 [(.t 75), (.t 77)])])
       (.seq
       (.reg 8 none [
        oP 8 (.mv (.v (.string ⟨#[91, 93]⟩)))])
       (.seq
       (.seq
       (.reg 20 none [
        oP 18 (.faddr 0 (.t 7)),
        oP 19 (.load none (.t 18)),
        oP 20 (.bin false .eql (.t 19) (.v (.int .i64 7)))])
       (.cond (.t 20)
        (.reg 8 none [
         oP 8 (.mv (.v (.string ⟨#[123, 125]⟩)))])
        .skip))
       (.canon [] [0, 1, 2, 7, 8] (.sub 0 zal_b0))))))))))))))))
 (.seq
 (.reg 6 none [
  oP 79 (.mv (.t 2)),
  oP 6 (.mv (.t 79))])
 (.canon [(2000000, some 0, .u8, 0)] [6] .ret))))))
theorem zal_chk : chk Tryd.prog 80 [] = some (zal_q.erase, [.tmp 6], 80) := by kernel_rfl
def zal_p2 (self : strings_Builder → (List Eng.Node) → Int → Option (strings_Builder × Int)) (at_ : Int) (b_addr : Bool) (v : List Eng.Node) (n_Kind : Int) (b_buf : List Int) : Option (Int × Bool × (List Int)) :=
 bif decide (n_Kind = (7 : Int)) then (
  gd (0 ≤ at_ ∧ at_ < v.length) <|
  gd ((Int.toNat at_) < v.length) <|
  gd ((Int.toNat at_) < v.length) <|
  (zak_s (⟨b_addr, b_buf⟩ : strings_Builder) ((v.getD (Int.toNat at_) (ET.dft .node)).key)).bind fun r57 =>
  (zbn_s r57 (58 : Int)).bind fun r58 =>
  (self r58.1 v at_).bind fun r59 =>
  some (r59.2, r59.1.addr, r59.1.buf))
 else (
  (self (⟨b_addr, b_buf⟩ : strings_Builder) v at_).bind fun r60 =>
  some (r60.2, r60.1.addr, r60.1.buf))
def zal_p1_step (self : strings_Builder → (List Eng.Node) → Int → Option (strings_Builder × Int)) (at_ : Int) (x26_ : Int) (x27_ : Int) (b_addr : Bool) (v : List Eng.Node) (n_Kind : Int) (b_buf : List Int) : Option ((Int × Int × Bool × (List Int)) ⊕ (Int × Bool × (List Int))) :=
 bif decide (x27_ < x26_) then (
  bif decide ((0 : Int) < x27_) then (
   (zbn_s (⟨b_addr, b_buf⟩ : strings_Builder) (44 : Int)).bind fun r56 =>
   (zal_p2 self at_ r56.1.addr v n_Kind r56.1.buf).bind fun o61 =>
   gd (InI64 (x27_ + (1 : Int))) <|
   some (.inl (o61.1, (x27_ + (1 : Int)), o61.2.1, o61.2.2)))
  else (
   (zal_p2 self at_ b_addr v n_Kind b_buf).bind fun o62 =>
   gd (InI64 (x27_ + (1 : Int))) <|
   some (.inl (o62.1, (x27_ + (1 : Int)), o62.2.1, o62.2.2))))
 else (
  some (.inr (at_, b_addr, b_buf)))
def zal_p1 (self : strings_Builder → (List Eng.Node) → Int → Option (strings_Builder × Int)) (at_ : Int) (x26_ : Int) (x27_ : Int) (b_addr : Bool) (v : List Eng.Node) (n_Kind : Int) (b_buf : List Int) : Option (Int × Bool × (List Int)) :=
 whileO (fun x : (Int × Int × Bool × (List Int)) => zal_p1_step self x.1 x26_ x.2.1 x.2.2.1 v n_Kind x.2.2.2) (at_, x27_, b_addr, b_buf)
def zal_p0 (self : strings_Builder → (List Eng.Node) → Int → Option (strings_Builder × Int)) (at_ : Int) (signs : ByteArray) (b_addr : Bool) (v : List Eng.Node) (b_buf : List Int) (n_Kind : Int) (n_Kids : Int) : Option (Int × Bool × (List Int)) :=
 gd (0 ≤ (0 : Int) ∧ (0 : Int) < signs.size) <|
 (zbn_s (⟨b_addr, b_buf⟩ : strings_Builder) (bAt signs (0 : Int))).bind fun r55 =>
 (zal_p1 self at_ n_Kids (0 : Int) r55.1.addr v n_Kind r55.1.buf).bind fun o63 =>
 gd (0 ≤ (1 : Int) ∧ (1 : Int) < signs.size) <|
 (zbn_s (⟨o63.2.1, o63.2.2⟩ : strings_Builder) (bAt signs (1 : Int))).bind fun r64 =>
 some (o63.1, r64.1.addr, r64.1.buf)
def zal_t (self : strings_Builder → (List Eng.Node) → Int → Option (strings_Builder × Int)) (b : strings_Builder) (v : (List Eng.Node)) (at_ : Int) : Option (strings_Builder × Int) :=
 gd (0 ≤ at_ ∧ at_ < v.length) <|
 gd ((Int.toNat at_) < v.length) <|
 gd (InI64 (at_ + (1 : Int))) <|
 bif decide (((v.getD (Int.toNat at_) (ET.dft .node)).kind) = (1 : Int)) then (
  (zbo_s b (⟨#[110, 117, 108, 108]⟩ : ByteArray)).bind fun r50 =>
  some (r50.1, (at_ + (1 : Int))))
 else (
  bif decide (((v.getD (Int.toNat at_) (ET.dft .node)).kind) = (2 : Int)) then (
   (zbo_s b (⟨#[102, 97, 108, 115, 101]⟩ : ByteArray)).bind fun r51 =>
   some (r51.1, (at_ + (1 : Int))))
  else (
   bif decide (((v.getD (Int.toNat at_) (ET.dft .node)).kind) = (3 : Int)) then (
    (zbo_s b (⟨#[116, 114, 117, 101]⟩ : ByteArray)).bind fun r52 =>
    some (r52.1, (at_ + (1 : Int))))
   else (
    bif decide (((v.getD (Int.toNat at_) (ET.dft .node)).kind) = (4 : Int)) then (
     (zbo_s b ((v.getD (Int.toNat at_) (ET.dft .node)).text)).bind fun r53 =>
     some (r53.1, (at_ + (1 : Int))))
    else (
     bif decide (((v.getD (Int.toNat at_) (ET.dft .node)).kind) = (5 : Int)) then (
      (zak_s b ((v.getD (Int.toNat at_) (ET.dft .node)).text)).bind fun r54 =>
      some (r54, (at_ + (1 : Int))))
     else (
      bif decide (((v.getD (Int.toNat at_) (ET.dft .node)).kind) = (7 : Int)) then (
       (zal_p0 self (at_ + (1 : Int)) (⟨#[123, 125]⟩ : ByteArray) b.addr v b.buf ((v.getD (Int.toNat at_) (ET.dft .node)).kind) ((v.getD (Int.toNat at_) (ET.dft .node)).kids)).bind fun o65 =>
       some ((⟨o65.2.1, o65.2.2⟩ : strings_Builder), o65.1))
      else (
       (zal_p0 self (at_ + (1 : Int)) (⟨#[91, 93]⟩ : ByteArray) b.addr v b.buf ((v.getD (Int.toNat at_) (ET.dft .node)).kind) ((v.getD (Int.toNat at_) (ET.dft .node)).kids)).bind fun o66 =>
       some ((⟨o66.2.1, o66.2.2⟩ : strings_Builder), o66.1)))))))
def zal_G (self : strings_Builder → (List Eng.Node) → Int → Option (strings_Builder × Int)) : Nat → Option CQ := tblQ [(113, zbo_w), (114, zak_w), (115, zbn_w), (80, zal_ws self)]
theorem zal_Gok (self : strings_Builder → (List Eng.Node) → Int → Option (strings_Builder × Int)) (hself : ValidQ Tryd.prog 80 (zal_ws self)) : ∀ f C, (zal_G self) f = some C → ValidQ Tryd.prog f C := tblQ_valid ⟨zbo_ok, zak_ok, zbn_ok, hself, trivial⟩
def zal_d2 := (dQS (dCons (dSl 0 (dVC (dCO (dH 0 0)))) (dCons (dSl 1 (dVC (dCO (dO 1)))) (dCons (dSl 2 (dVC (dCO (dI .i64)))) (dCons (dSl 7 (dVC (dCO (dH 3 0)))) (dCons (dSl 8 (dVC (dCO dS))) (dCons (dSl 26 (dVC (dCO (dI .i64)))) (dCons (dSl 27 (dVC (dCO (dI .i64)))) dNil))))))) (dCons (dCells 107 (dCons (dP 0 0) (dCons (dO 4) dNil))) (dCons (dView .node) (dCons dDead (dCons (dCells 36 (dCons (dI .i64) (dCons dS (dCons dS (dCons dB (dCons (dI .i64) (dCons (dI .i64) dNil))))))) (dCons (dRow .u8 5) dNil))))))
def zal_l2 (self : strings_Builder → (List Eng.Node) → Int → Option (strings_Builder × Int)) : SubQ := fun S R kn kx kr => (Dec.d zal_d2 S).bind fun x => (zal_p2 self x.1.2.2.1 x.2.1.1 x.2.2.1 x.2.2.2.2.1.1 x.2.2.2.2.2.1).bind fun r => kn ⟨[(0, [], .c (.o (.hd 0 0))), (1, [], .c (.o (.own 1))), (2, [], .c (.o (.val (.int .i64 r.1)))), (7, [], .c (.o (.hd 3 0))), (8, [], .c (.o (.val (.string x.1.2.2.2.2.1)))), (26, [], .c (.o (.val (.int .i64 x.1.2.2.2.2.2.1)))), (27, [], .c (.o (.val (.int .i64 x.1.2.2.2.2.2.2.1))))], [], [.cells 107 [.opt r.2.1 0 0, .own 4], .view .node x.2.2.1, .dead, .cells 36 [.val (.int .i64 x.2.2.2.2.1.1), .val (.string x.2.2.2.2.1.2.1), .val (.string x.2.2.2.2.1.2.2.1), .val (.bool x.2.2.2.2.1.2.2.2.1), .val (.int .i64 x.2.2.2.2.1.2.2.2.2.1), .val (.int .i64 x.2.2.2.2.1.2.2.2.2.2.1)], .row .u8 5 r.2.2]⟩
def zal_d1 := (dQS (dCons (dSl 0 (dVC (dCO (dH 0 0)))) (dCons (dSl 1 (dVC (dCO (dO 1)))) (dCons (dSl 2 (dVC (dCO (dI .i64)))) (dCons (dSl 7 (dVC (dCO (dH 3 0)))) (dCons (dSl 8 (dVC (dCO dS))) (dCons (dSl 26 (dVC (dCO (dI .i64)))) (dCons (dSl 27 (dVC (dCO (dI .i64)))) dNil))))))) (dCons (dCells 107 (dCons (dP 0 0) (dCons (dO 4) dNil))) (dCons (dView .node) (dCons dDead (dCons (dCells 36 (dCons (dI .i64) (dCons dS (dCons dS (dCons dB (dCons (dI .i64) (dCons (dI .i64) dNil))))))) (dCons (dRow .u8 5) dNil))))))
def zal_l1 (self : strings_Builder → (List Eng.Node) → Int → Option (strings_Builder × Int)) : SubQ := fun S R kn kx kr => (Dec.d zal_d1 S).bind fun x => (zal_p1 self x.1.2.2.1 x.1.2.2.2.2.2.1 x.1.2.2.2.2.2.2.1 x.2.1.1 x.2.2.1 x.2.2.2.2.1.1 x.2.2.2.2.2.1).bind fun r => kx 1 ⟨[(0, [], .c (.o (.hd 0 0))), (2, [], .c (.o (.val (.int .i64 r.1)))), (8, [], .c (.o (.val (.string x.1.2.2.2.2.1))))], [], [.cells 107 [.opt r.2.1 0 0, .own 3], .view .node x.2.2.1, .dead, .row .u8 5 r.2.2]⟩
def zal_d0 := (dQS (dCons (dSl 0 (dVC (dCO (dH 0 0)))) (dCons (dSl 1 (dVC (dCO (dO 1)))) (dCons (dSl 2 (dVC (dCO (dI .i64)))) (dCons (dSl 7 (dVC (dCO (dH 3 0)))) (dCons (dSl 8 (dVC (dCO dS))) dNil))))) (dCons (dCells 107 (dCons (dP 0 0) (dCons (dO 2) dNil))) (dCons (dView .node) (dCons (dRow .u8 5) (dCons (dCells 36 (dCons (dI .i64) (dCons dS (dCons dS (dCons dB (dCons (dI .i64) (dCons (dI .i64) dNil))))))) dNil)))))
def zal_l0 (self : strings_Builder → (List Eng.Node) → Int → Option (strings_Builder × Int)) : SubQ := fun S R kn kx kr => (Dec.d zal_d0 S).bind fun x => (zal_p0 self x.1.2.2.1 x.1.2.2.2.2.1 x.2.1.1 x.2.2.1 x.2.2.2.1 x.2.2.2.2.1.1 x.2.2.2.2.1.2.2.2.2.2.1).bind fun r => kn ⟨[(0, [], .c (.o (.hd 0 0))), (2, [], .c (.o (.val (.int .i64 r.1))))], [], [.cells 107 [.opt r.2.1 0 0, .own 3], .view .node x.2.2.1, .dead, .row .u8 5 r.2.2]⟩
def zal_L (self : strings_Builder → (List Eng.Node) → Int → Option (strings_Builder × Int)) : Nat → SubQ := tblL [(2, zal_l2 self), (1, zal_l1 self), (0, zal_l0 self)]
theorem zal_p2_eq (self : strings_Builder → (List Eng.Node) → Int → Option (strings_Builder × Int)) (at_ : Int) (signs : ByteArray) (x26_ : Int) (x27_ : Int) (b_addr : Bool) (v : List Eng.Node) (n_Kind : Int) (n_Key : ByteArray) (n_Text : ByteArray) (n_Whole : Bool) (n_Int : Int) (n_Kids : Int) (b_buf : List Int) (R : Type) (kn : QS → Option R) (kx : Nat → QS → Option R) (kr : QS → Option R) :
  interpQ (zal_L self) (zal_G self) 3 28 80 zal_b2 ⟨[(0, [], .c (.o (.hd 0 0))), (1, [], .c (.o (.own 1))), (2, [], .c (.o (.val (.int .i64 at_)))), (7, [], .c (.o (.hd 3 0))), (8, [], .c (.o (.val (.string signs)))), (26, [], .c (.o (.val (.int .i64 x26_)))), (27, [], .c (.o (.val (.int .i64 x27_))))], [], [.cells 107 [.opt b_addr 0 0, .own 4], .view .node v, .dead, .cells 36 [.val (.int .i64 n_Kind), .val (.string n_Key), .val (.string n_Text), .val (.bool n_Whole), .val (.int .i64 n_Int), .val (.int .i64 n_Kids)], .row .u8 5 b_buf]⟩ kn kx kr = (zal_p2 self at_ b_addr v n_Kind b_buf).bind fun r => kn ⟨[(0, [], .c (.o (.hd 0 0))), (1, [], .c (.o (.own 1))), (2, [], .c (.o (.val (.int .i64 r.1)))), (7, [], .c (.o (.hd 3 0))), (8, [], .c (.o (.val (.string signs)))), (26, [], .c (.o (.val (.int .i64 x26_)))), (27, [], .c (.o (.val (.int .i64 x27_))))], [], [.cells 107 [.opt r.2.1 0 0, .own 4], .view .node v, .dead, .cells 36 [.val (.int .i64 n_Kind), .val (.string n_Key), .val (.string n_Text), .val (.bool n_Whole), .val (.int .i64 n_Int), .val (.int .i64 n_Kids)], .row .u8 5 r.2.2]⟩ := by
 simp only [zal_p2, -eq_self, bind_cond, bind_gd, Option.bind_assoc, obS, Sum.elim_inl, Sum.elim_inr, bind_elim]
 kernel_rfl
theorem zal_sub2 (self : strings_Builder → (List Eng.Node) → Int → Option (strings_Builder × Int)) : SubOK (zal_L self) (zal_G self) 3 28 80 2 zal_b2 := sub_ok' zal_d2 (fun x R kn kx kr => (zal_p2 self x.1.2.2.1 x.2.1.1 x.2.2.1 x.2.2.2.2.1.1 x.2.2.2.2.2.1).bind fun r => kn ⟨[(0, [], .c (.o (.hd 0 0))), (1, [], .c (.o (.own 1))), (2, [], .c (.o (.val (.int .i64 r.1)))), (7, [], .c (.o (.hd 3 0))), (8, [], .c (.o (.val (.string x.1.2.2.2.2.1)))), (26, [], .c (.o (.val (.int .i64 x.1.2.2.2.2.2.1)))), (27, [], .c (.o (.val (.int .i64 x.1.2.2.2.2.2.2.1))))], [], [.cells 107 [.opt r.2.1 0 0, .own 4], .view .node x.2.2.1, .dead, .cells 36 [.val (.int .i64 x.2.2.2.2.1.1), .val (.string x.2.2.2.2.1.2.1), .val (.string x.2.2.2.2.1.2.2.1), .val (.bool x.2.2.2.2.1.2.2.2.1), .val (.int .i64 x.2.2.2.2.1.2.2.2.2.1), .val (.int .i64 x.2.2.2.2.1.2.2.2.2.2.1)], .row .u8 5 r.2.2]⟩) (by kernel_rfl) fun x R kn kx kr => zal_p2_eq self x.1.2.2.1 x.1.2.2.2.2.1 x.1.2.2.2.2.2.1 x.1.2.2.2.2.2.2.1 x.2.1.1 x.2.2.1 x.2.2.2.2.1.1 x.2.2.2.2.1.2.1 x.2.2.2.2.1.2.2.1 x.2.2.2.2.1.2.2.2.1 x.2.2.2.2.1.2.2.2.2.1 x.2.2.2.2.1.2.2.2.2.2.1 x.2.2.2.2.2.1 R kn kx kr
theorem zal_p1_eq (self : strings_Builder → (List Eng.Node) → Int → Option (strings_Builder × Int)) (at_ : Int) (signs : ByteArray) (x26_ : Int) (x27_ : Int) (b_addr : Bool) (v : List Eng.Node) (n_Kind : Int) (n_Key : ByteArray) (n_Text : ByteArray) (n_Whole : Bool) (n_Int : Int) (n_Kids : Int) (b_buf : List Int) (R : Type) (kn : QS → Option R) (kx : Nat → QS → Option R) (kr : QS → Option R) :
  interpQ (zal_L self) (zal_G self) 3 28 80 zal_b1 ⟨[(0, [], .c (.o (.hd 0 0))), (1, [], .c (.o (.own 1))), (2, [], .c (.o (.val (.int .i64 at_)))), (7, [], .c (.o (.hd 3 0))), (8, [], .c (.o (.val (.string signs)))), (26, [], .c (.o (.val (.int .i64 x26_)))), (27, [], .c (.o (.val (.int .i64 x27_))))], [], [.cells 107 [.opt b_addr 0 0, .own 4], .view .node v, .dead, .cells 36 [.val (.int .i64 n_Kind), .val (.string n_Key), .val (.string n_Text), .val (.bool n_Whole), .val (.int .i64 n_Int), .val (.int .i64 n_Kids)], .row .u8 5 b_buf]⟩ kn kx kr = (zal_p1 self at_ x26_ x27_ b_addr v n_Kind b_buf).bind fun r => kx 1 ⟨[(0, [], .c (.o (.hd 0 0))), (2, [], .c (.o (.val (.int .i64 r.1)))), (8, [], .c (.o (.val (.string signs))))], [], [.cells 107 [.opt r.2.1 0 0, .own 3], .view .node v, .dead, .row .u8 5 r.2.2]⟩ := by
 refine loop_piece (step := fun x => zal_p1_step self x.1 x26_ x.2.1 x.2.2.1 v n_Kind x.2.2.2) (enc := fun x => ⟨[(0, [], .c (.o (.hd 0 0))), (1, [], .c (.o (.own 1))), (2, [], .c (.o (.val (.int .i64 x.1)))), (7, [], .c (.o (.hd 3 0))), (8, [], .c (.o (.val (.string signs)))), (26, [], .c (.o (.val (.int .i64 x26_)))), (27, [], .c (.o (.val (.int .i64 x.2.1))))], [], [.cells 107 [.opt x.2.2.1 0 0, .own 4], .view .node v, .dead, .cells 36 [.val (.int .i64 n_Kind), .val (.string n_Key), .val (.string n_Text), .val (.bool n_Whole), .val (.int .i64 n_Int), .val (.int .i64 n_Kids)], .row .u8 5 x.2.2.2]⟩) (ko := fun r => kx 1 ⟨[(0, [], .c (.o (.hd 0 0))), (2, [], .c (.o (.val (.int .i64 r.1)))), (8, [], .c (.o (.val (.string signs))))], [], [.cells 107 [.opt r.2.1 0 0, .own 3], .view .node v, .dead, .row .u8 5 r.2.2]⟩) ?_ ?_ (at_, x27_, b_addr, b_buf)
 ·intro x; kernel_rfl
 ·intro x ki; simp only [zal_p1_step, -eq_self, bind_cond, bind_gd, Option.bind_assoc, obS, Sum.elim_inl, Sum.elim_inr, bind_elim]; kernel_rfl
theorem zal_sub1 (self : strings_Builder → (List Eng.Node) → Int → Option (strings_Builder × Int)) : SubOK (zal_L self) (zal_G self) 3 28 80 1 zal_b1 := sub_ok' zal_d1 (fun x R kn kx kr => (zal_p1 self x.1.2.2.1 x.1.2.2.2.2.2.1 x.1.2.2.2.2.2.2.1 x.2.1.1 x.2.2.1 x.2.2.2.2.1.1 x.2.2.2.2.2.1).bind fun r => kx 1 ⟨[(0, [], .c (.o (.hd 0 0))), (2, [], .c (.o (.val (.int .i64 r.1)))), (8, [], .c (.o (.val (.string x.1.2.2.2.2.1))))], [], [.cells 107 [.opt r.2.1 0 0, .own 3], .view .node x.2.2.1, .dead, .row .u8 5 r.2.2]⟩) (by kernel_rfl) fun x R kn kx kr => zal_p1_eq self x.1.2.2.1 x.1.2.2.2.2.1 x.1.2.2.2.2.2.1 x.1.2.2.2.2.2.2.1 x.2.1.1 x.2.2.1 x.2.2.2.2.1.1 x.2.2.2.2.1.2.1 x.2.2.2.2.1.2.2.1 x.2.2.2.2.1.2.2.2.1 x.2.2.2.2.1.2.2.2.2.1 x.2.2.2.2.1.2.2.2.2.2.1 x.2.2.2.2.2.1 R kn kx kr
theorem zal_p0_eq (self : strings_Builder → (List Eng.Node) → Int → Option (strings_Builder × Int)) (at_ : Int) (signs : ByteArray) (b_addr : Bool) (v : List Eng.Node) (b_buf : List Int) (n_Kind : Int) (n_Key : ByteArray) (n_Text : ByteArray) (n_Whole : Bool) (n_Int : Int) (n_Kids : Int) (R : Type) (kn : QS → Option R) (kx : Nat → QS → Option R) (kr : QS → Option R) :
  interpQ (zal_L self) (zal_G self) 3 28 80 zal_b0 ⟨[(0, [], .c (.o (.hd 0 0))), (1, [], .c (.o (.own 1))), (2, [], .c (.o (.val (.int .i64 at_)))), (7, [], .c (.o (.hd 3 0))), (8, [], .c (.o (.val (.string signs))))], [], [.cells 107 [.opt b_addr 0 0, .own 2], .view .node v, .row .u8 5 b_buf, .cells 36 [.val (.int .i64 n_Kind), .val (.string n_Key), .val (.string n_Text), .val (.bool n_Whole), .val (.int .i64 n_Int), .val (.int .i64 n_Kids)]]⟩ kn kx kr = (zal_p0 self at_ signs b_addr v b_buf n_Kind n_Kids).bind fun r => kn ⟨[(0, [], .c (.o (.hd 0 0))), (2, [], .c (.o (.val (.int .i64 r.1))))], [], [.cells 107 [.opt r.2.1 0 0, .own 3], .view .node v, .dead, .row .u8 5 r.2.2]⟩ := by
 simp only [zal_p0, -eq_self, bind_cond, bind_gd, Option.bind_assoc, obS, Sum.elim_inl, Sum.elim_inr, bind_elim]
 kernel_rfl
theorem zal_sub0 (self : strings_Builder → (List Eng.Node) → Int → Option (strings_Builder × Int)) : SubOK (zal_L self) (zal_G self) 3 28 80 0 zal_b0 := sub_ok' zal_d0 (fun x R kn kx kr => (zal_p0 self x.1.2.2.1 x.1.2.2.2.2.1 x.2.1.1 x.2.2.1 x.2.2.2.1 x.2.2.2.2.1.1 x.2.2.2.2.1.2.2.2.2.2.1).bind fun r => kn ⟨[(0, [], .c (.o (.hd 0 0))), (2, [], .c (.o (.val (.int .i64 r.1))))], [], [.cells 107 [.opt r.2.1 0 0, .own 3], .view .node x.2.2.1, .dead, .row .u8 5 r.2.2]⟩) (by kernel_rfl) fun x R kn kx kr => zal_p0_eq self x.1.2.2.1 x.1.2.2.2.2.1 x.2.1.1 x.2.2.1 x.2.2.2.1 x.2.2.2.2.1.1 x.2.2.2.2.1.2.1 x.2.2.2.2.1.2.2.1 x.2.2.2.2.1.2.2.2.1 x.2.2.2.2.1.2.2.2.2.1 x.2.2.2.2.1.2.2.2.2.2.1 R kn kx kr
theorem zal_subs (self : strings_Builder → (List Eng.Node) → Int → Option (strings_Builder × Int)) : subsOK (zal_L self) (zal_G self) 3 28 80 zal_q := subs_of (show AllSub (zal_L self) (zal_G self) 3 28 80 [(0, zal_b0), (1, zal_b1), (2, zal_b2)] from ⟨(zal_sub0 self), (zal_sub1 self), (zal_sub2 self), trivial⟩)
theorem zal_eq (self : strings_Builder → (List Eng.Node) → Int → Option (strings_Builder × Int)) (b : strings_Builder) (v : (List Eng.Node)) (at_ : Int) (R : Type) (k : SV → List SB → Option R) :
  fnQ (zal_L self) (zal_G self) 28 80 zal_q [.tmp 6] [.c (.o (.hd 0 0)), .c (.o (.own 1)), .c (.o (.val (.int .i64 at_)))] [.cells 107 [.opt b.addr 0 0, .own 2], .view .node v, .row .u8 5 b.buf] k = (zal_t self b v at_).bind fun r => k (.c (.o (.val (.int .i64 r.2)))) [.cells 107 [.opt r.1.addr 0 0, .own 3], .view .node v, .dead, .row .u8 5 r.1.buf] := by
 simp only [zal_t, -eq_self, bind_cond, bind_gd, Option.bind_assoc, obS, Sum.elim_inl, Sum.elim_inr, bind_elim]
 kernel_rfl
theorem zal_val_t (self : strings_Builder → (List Eng.Node) → Int → Option (strings_Builder × Int)) (hself : ValidQ Tryd.prog 80 (zal_ws self)) : ValidS Tryd.prog 80 (zal_cs (zal_t self)) :=
 val_ok zal_chk 28 (zal_Gok self hself) zal_da zal_db 3 (fun x y R k => (zal_t self (⟨y.1.1, y.2.2.1⟩ : strings_Builder) y.2.1 x.2.2.1).bind fun r => k (.c (.o (.val (.int .i64 r.2)))) [.cells 107 [.opt r.1.addr 0 0, .own 3], .view .node y.2.1, .dead, .row .u8 5 r.1.buf]) (by kernel_rfl)
  (fun x y R k => by simp only [Option.bind_assoc, obS]) (fun x => Nat.le_of_ble_eq_true rfl) (fun y => rfl) (zal_subs self) fun x y => zal_eq self (⟨y.1.1, y.2.2.1⟩ : strings_Builder) y.2.1 x.2.2.1 _ _
def zal_n : Nat → strings_Builder → (List Eng.Node) → Int → Option (strings_Builder × Int)
 | 0 => fun _ _ _ => none
 | n + 1 => zal_t (zal_n n)
def zal_s (b : strings_Builder) (v : (List Eng.Node)) (at_ : Int) : Option (strings_Builder × Int) := evt fun n => zal_n n b v at_
theorem zal_valn : ∀ n, ValidS Tryd.prog 80 (zal_cs (zal_n n))
 | 0 => ValidS.zero fun args hp R k => by
  show ((Dec.d zal_da args).bind fun x => (Dec.d zal_db hp).bind fun y => none) = none
  cases Dec.d zal_da args with
  | none => rfl
  | some x => cases Dec.d zal_db hp <;> rfl
 | n + 1 => zal_val_t (zal_n n) (prep_loud (zal_valn n))
theorem zal_val : ValidS Tryd.prog 80 (zal_cs zal_s) := ValidS.evt zal_valn (fun args hp R k => by
  show ((Dec.d zal_da args).bind fun x => (Dec.d zal_db hp).bind fun y => _) = (((Dec.d zal_da args).bind fun x => (Dec.d zal_db hp).bind fun y => _) : Option (SV × List SB)).bind _
  cases Dec.d zal_da args with
  | none => rfl
  | some x =>
   cases Dec.d zal_db hp with
   | none => rfl
   | some y => simp only [obS, Option.bind_assoc]) fun args hp v hp' h => by
  obtain ⟨x, h1, h2⟩ := Option.bind_eq_some_iff.1 h
  obtain ⟨y, h3, h4⟩ := Option.bind_eq_some_iff.1 h2
  obtain ⟨r, h5, h6⟩ := Option.bind_eq_some_iff.1 h4
  obtain ⟨n, h7⟩ := evt_some h5
  refine ⟨n, ?_⟩
  show ((Dec.d zal_da args).bind fun x => (Dec.d zal_db hp).bind fun y => _) = _
  rw [h1]
  simp only [obS]
  rw [h3]
  simp only [obS]
  exact (congrArg (fun z => Option.bind z _) h7).trans h6
def zal_w : CQ := zal_ws zal_s
theorem zal_ok : ValidQ Tryd.prog 80 zal_w := prep_loud zal_val

/-! ### (*strings.Builder).Len -/
def zbl_q : IQ :=
 (.seq
 (.reg 2 none [
  oP 2 (.mv (.v (.int .i64 0)))])
 (.seq
 (.reg 2 none [
  oP 3 (.mv (.t 0)),
  oP 4 (.ext .nilck [(.t 3)]),
  oP 5 (.faddr 1 (.t 4)),
  oP 6 (.load none (.t 5)),
  oP 7 (.len (.t 6)),
  oP 2 (.mv (.t 7))])
 (.canon [(2000000, some 0, .u8, 0)] [2] .ret)))
theorem zbl_chk : chk Tryd.prog 81 [] = some (zbl_q.erase, [.tmp 2], 8) := by kernel_rfl
def zbl_s (b : strings_Builder) : Option Int :=
 some (b.buf.length : Int)
def zbl_G : Nat → Option CQ := tblQ []
theorem zbl_Gok : ∀ f C, zbl_G f = some C → ValidQ Tryd.prog f C := fun f C h => by cases h
def zbl_L : Nat → SubQ := tblL []
theorem zbl_subs : subsOK zbl_L zbl_G 2 3 8 zbl_q := subs_of (show AllSub zbl_L zbl_G 2 3 8 [] from trivial)
theorem zbl_eq (b : strings_Builder) (R : Type) (k : SV → List SB → Option R) :
  fnQ zbl_L zbl_G 3 8 zbl_q [.tmp 2] [.c (.o (.hd 0 0))] [.cells 107 [.opt b.addr 0 0, .own 1], .view .u8 b.buf] k = (zbl_s b).bind fun r => k (.c (.o (.val (.int .i64 r)))) [.cells 107 [.opt b.addr 0 0, .own 1], .view .u8 b.buf] := by
 simp only [zbl_s, -eq_self, bind_cond, bind_gd, Option.bind_assoc, obS, Sum.elim_inl, Sum.elim_inr, bind_elim]
 kernel_rfl
def zbl_da := (dCons (dVC (dCO (dH 0 0))) dNil)
def zbl_db := (dCons (dCells 107 (dCons (dP 0 0) (dCons (dO 1) dNil))) (dCons (dView .u8) dNil))
def zbl_c : CS := fun args hp R k => (Dec.d zbl_da args).bind fun x => (Dec.d zbl_db hp).bind fun y => (zbl_s (⟨y.1.1, y.2.1⟩ : strings_Builder)).bind fun r => k (.c (.o (.val (.int .i64 r)))) [.cells 107 [.opt y.1.1 0 0, .own 1], .view .u8 y.2.1]
theorem zbl_val : ValidS Tryd.prog 81 zbl_c :=
 val_ok zbl_chk 3 zbl_Gok zbl_da zbl_db 2 (fun x y R k => (zbl_s (⟨y.1.1, y.2.1⟩ : strings_Builder)).bind fun r => k (.c (.o (.val (.int .i64 r)))) [.cells 107 [.opt y.1.1 0 0, .own 1], .view .u8 y.2.1]) (by kernel_rfl)
  (fun x y R k => by simp only [Option.bind_assoc, obS]) (fun x => Nat.le_of_ble_eq_true rfl) (fun y => rfl) zbl_subs fun x y => zbl_eq (⟨y.1.1, y.2.1⟩ : strings_Builder) _ _
def zbl_w : CQ := prepQ [(0, some 0, none), (0, some 1, some (.u8, 5))] (liftQ [true, false] zbl_c)
theorem zbl_ok : ValidQ Tryd.prog 81 zbl_w := prep_loud zbl_val

/-! ### (*strings.Builder).String -/
def zbm_q : IQ :=
 (.seq
 (.reg 2 none [
  oP 2 (.mv (.v (.string ⟨#[]⟩)))])
 (.seq
 (.reg 2 (some [0, 1, 2, 3, 4, 5, 6, 7, 8, 9, 10, 11]) [
  oP 3 (.mv (.t 0)),
  oP 4 (.ext .nilck [(.t 3)]),
  oP 5 (.faddr 1 (.t 4)),
  oP 6 (.load none (.t 5)),
  oP 7 (.ext .sdata [(.t 6)]),
  oP 8 (.mv (.t 0)),
  oP 9 (.ext .nilck [(.t 8)]),
  oP 10 (.faddr 1 (.t 9)),
  oP 11 (.load none (.t 10)),
  oP 12 (.len (.t 11)),
  oP 13 (.ext (.ustr 5) [(.t 7), (.t 12)]),
  oP 2 (.mv (.t 13))])
 (.canon [(2000000, some 0, .u8, 0)] [2] .ret)))
theorem zbm_chk : chk Tryd.prog 82 [] = some (zbm_q.erase, [.tmp 2], 14) := by kernel_rfl
def zbm_s (b : strings_Builder) : Option (strings_Builder × ByteArray) :=
 gd (0 < b.buf.length) <|
 gd ((b.buf.length : Int) = b.buf.length ∧ 0 < b.buf.length ∧ ∀ x ∈ b.buf, 0 ≤ x ∧ x < 256) <|
 some ((⟨b.addr, []⟩ : strings_Builder), (bytesI b.buf))
def zbm_G : Nat → Option CQ := tblQ []
theorem zbm_Gok : ∀ f C, zbm_G f = some C → ValidQ Tryd.prog f C := fun f C h => by cases h
def zbm_L : Nat → SubQ := tblL []
theorem zbm_subs : subsOK zbm_L zbm_G 2 3 14 zbm_q := subs_of (show AllSub zbm_L zbm_G 2 3 14 [] from trivial)
theorem zbm_eq (b : strings_Builder) (R : Type) (k : SV → List SB → Option R) :
  fnQ zbm_L zbm_G 3 14 zbm_q [.tmp 2] [.c (.o (.hd 0 0))] [.cells 107 [.opt b.addr 0 0, .own 1], .row .u8 5 b.buf] k = (zbm_s b).bind fun r => k (.c (.o (.val (.string r.2)))) [.cells 107 [.opt r.1.addr 0 0, .own 1], .dead] := by
 simp only [zbm_s, -eq_self, bind_cond, bind_gd, Option.bind_assoc, obS, Sum.elim_inl, Sum.elim_inr, bind_elim]
 kernel_rfl
def zbm_da := (dCons (dVC (dCO (dH 0 0))) dNil)
def zbm_db := (dCons (dCells 107 (dCons (dP 0 0) (dCons (dO 1) dNil))) (dCons (dRow .u8 5) dNil))
def zbm_c : CS := fun args hp R k => (Dec.d zbm_da args).bind fun x => (Dec.d zbm_db hp).bind fun y => (zbm_s (⟨y.1.1, y.2.1⟩ : strings_Builder)).bind fun r => k (.c (.o (.val (.string r.2)))) [.cells 107 [.opt r.1.addr 0 0, .own 1], .dead]
theorem zbm_val : ValidS Tryd.prog 82 zbm_c :=
 val_ok zbm_chk 3 zbm_Gok zbm_da zbm_db 2 (fun x y R k => (zbm_s (⟨y.1.1, y.2.1⟩ : strings_Builder)).bind fun r => k (.c (.o (.val (.string r.2)))) [.cells 107 [.opt r.1.addr 0 0, .own 1], .dead]) (by kernel_rfl)
  (fun x y R k => by simp only [Option.bind_assoc, obS]) (fun x => Nat.le_of_ble_eq_true rfl) (fun y => rfl) zbm_subs fun x y => zbm_eq (⟨y.1.1, y.2.1⟩ : strings_Builder) _ _
def zbm_w : CQ := prepQ [(0, some 0, none), (0, some 1, some (.u8, 5))] (liftQ [true, true] zbm_c)
theorem zbm_ok : ValidQ Tryd.prog 82 zbm_w := prep_loud zbm_val

/-! ### signet/json.Print -/
def zah_q : IQ :=
 (.seq
 (.reg 3 none [
  oP 2 (.mv (.v (.string ⟨#[]⟩))),
  oP 3 (.mv (.v (.int .i64 0)))])
 (.seq
 (.seq
 (.reg 7 none [
  oP 5 (.mv (.t 0)),
  oP 6 (.call 39 [(.t 5)]),
  oP 7 (.un .not (.t 6))])
 (.cond (.t 7)
  (.seq
  (.reg 3 none [
   oP 2 (.mv (.v (.string ⟨#[]⟩))),
   oP 3 (.mv (.v (.int .i64 31)))])
  (.canon [] [2, 3] .ret))
  .skip))
 (.seq
 (.reg 4 none [
  oP 4 (.alloc 107 [.pointer none, .slice none 0 0])])
 (.seq
 (.reg 9 none [
  oP 8 (.mv (.t 0)),
  oP 9 (.call 80 [(.t 4), (.t 8), (.v (.int .i64 0))])])
 (.seq
 (.seq
 (.reg 11 none [
  oP 10 (.call 81 [(.t 4)]),
  oP 11 (.bin false .gtr (.t 10) (.v (.int .i64 262144)))])
 (.cond (.t 11)
  (.seq
  (.reg 3 none [
   oP 2 (.mv (.v (.string ⟨#[]⟩))),
   oP 3 (.mv (.v (.int .i64 10)))])
  (.canon [] [2, 3] .ret))
  .skip))
 (.seq
 (.reg 3 none [
  oP 12 (.call 82 [(.t 4)]),
  oP 2 (.mv (.t 12)),
  oP 3 (.mv (.v (.int .i64 0)))])
 (.canon [] [2, 3] .ret)))))))
theorem zah_chk : chk Tryd.prog 40 [] = some (zah_q.erase, [.tmp 2, .tmp 3], 13) := by kernel_rfl
def zah_s (v : (List Eng.Node)) : Option (ByteArray × Int) :=
 (zai_s v).bind fun r1 =>
 bif (!r1) then (
  some ((⟨#[]⟩ : ByteArray), (31 : Int)))
 else (
  (zal_s (⟨false, []⟩ : strings_Builder) v (0 : Int)).bind fun r2 =>
  (zbl_s r2.1).bind fun r3 =>
  bif decide ((262144 : Int) < r3) then (
   some ((⟨#[]⟩ : ByteArray), (10 : Int)))
  else (
   (zbm_s r2.1).bind fun r4 =>
   some (r4.2, (0 : Int))))
def zah_G : Nat → Option CQ := tblQ [(39, zai_w), (80, zal_w), (81, zbl_w), (82, zbm_w)]
theorem zah_Gok : ∀ f C, zah_G f = some C → ValidQ Tryd.prog f C := tblQ_valid ⟨zai_ok, zal_ok, zbl_ok, zbm_ok, trivial⟩
def zah_L : Nat → SubQ := tblL []
theorem zah_subs : subsOK zah_L zah_G 1 5 13 zah_q := subs_of (show AllSub zah_L zah_G 1 5 13 [] from trivial)
theorem zah_eq (v : (List Eng.Node)) (R : Type) (k : SV → List SB → Option R) :
  fnQ zah_L zah_G 5 13 zah_q [.tmp 2, .tmp 3] [.c (.o (.own 0))] [.view .node v] k = (zah_s v).bind fun r => k (.tup [.o (.val (.string r.1)), .o (.val (.int .i64 r.2))]) [.view .node v] := by
 simp only [zah_s, -eq_self, bind_cond, bind_gd, Option.bind_assoc, obS, Sum.elim_inl, Sum.elim_inr, bind_elim]
 kernel_rfl
def zah_da := (dCons (dVC (dCO (dO 0))) dNil)
def zah_db := (dCons (dView .node) dNil)
def zah_c : CS := fun args hp R k => (Dec.d zah_da args).bind fun x => (Dec.d zah_db hp).bind fun y => (zah_s y.1).bind fun r => k (.tup [.o (.val (.string r.1)), .o (.val (.int .i64 r.2))]) [.view .node y.1]
theorem zah_val : ValidS Tryd.prog 40 zah_c :=
 val_ok zah_chk 5 zah_Gok zah_da zah_db 1 (fun x y R k => (zah_s y.1).bind fun r => k (.tup [.o (.val (.string r.1)), .o (.val (.int .i64 r.2))]) [.view .node y.1]) (by kernel_rfl)
  (fun x y R k => by simp only [Option.bind_assoc, obS]) (fun x => Nat.le_of_ble_eq_true rfl) (fun y => rfl) zah_subs fun x y => zah_eq y.1 _ _
def zah_w : CQ := prepQ [(0, none, some (.node, 36))] (liftV [false] zah_c)
theorem zah_ok : ValidQ Tryd.prog 40 zah_w := prep_quiet zah_val

/-! ### signet/signetref3.Quoted -/
def zay_b1 : IQ :=
 (.join [] [0, 3, 4, 5]
 (.reg 5 none [
  oP 12 (.mv (.t 5)),
  oP 13 (.bin false .add (.t 12) (.v (.int .i64 1))),
  oP 5 (.mv (.t 13))]))
def zay_b0 : IQ :=
 (.loop [0, 3, 4, 5]
  (.seq
  (.seq
  (.reg 11 none [
   oP 8 (.mv (.t 5)),
   oP 9 (.mv (.t 0)),
   oP 10 (.lenS (.t 9)),
   oP 11 (.bin false .lss (.t 8) (.t 10))])
  (.cond (.t 11)
   .skip
   (.canon [] [4] (.exit 0))))
  (.seq
  (.block 1
   (.seq
   (.reg 6 none [
    oP 14 (.mv (.t 0)),
    oP 15 (.mv (.t 5)),
    oP 16 (.index (.t 14) (.t 15)),
    oP 17 (.conv false .i64 (.t 16)),
    oP 6 (.mv (.t 17))])
   (.block 2
    (.seq
    (.reg 24 none [
     oP 25 (.mv (.t 6)),
     oP 26 (.bin false .eql (.t 25) (.v (.int .i64 34))),
     oP 27 (.mv (.t 26)),
     oG 28 (.mv (.t 6)) 27 false,
     oG 29 (.bin false .eql (.t 28) (.v (.int .i64 92))) 27 false,
     oP 30 (.pick (.t 27) (.v (.bool true)) (.t 29)),
     oP 24 (.mv (.t 30))])
    (.cond (.t 24)
     (.reg 4 none [
      oP 31 (.mv (.t 4)),
      oP 32 (.mv (.t 0)),
      oP 33 (.mv (.t 5)),
      oP 34 (.index (.t 32) (.t 33)),
      oP 35 (.bslice 5 1 2 [.int .u8 0] [(0, (.v (.int .u8 92))), (1, (.t 34))]),
      oP 36 (.append 5 1 1 [.int .u8 0] (.t 31) (.t 35)),
      oP 4 (.mv (.t 36))])
     (.seq
     (.reg 37 none [
      oP 38 (.mv (.t 6)),
      oP 39 (.bin false .eql (.t 38) (.v (.int .i64 8))),
      oP 37 (.mv (.t 39))])
     (.cond (.t 37)
      (.reg 4 none [
       oP 40 (.mv (.t 4)),
       oP 41 (.bslice 5 1 2 [.int .u8 0] [(0, (.v (.int .u8 92))), (1, (.v (.int .u8 98)))]),
       oP 42 (.append 5 1 1 [.int .u8 0] (.t 40) (.t 41)),
       oP 4 (.mv (.t 42))])
      (.seq
      (.reg 43 none [
       oP 44 (.mv (.t 6)),
       oP 45 (.bin false .eql (.t 44) (.v (.int .i64 12))),
       oP 43 (.mv (.t 45))])
      (.cond (.t 43)
       (.reg 4 none [
        oP 46 (.mv (.t 4)),
        oP 47 (.bslice 5 1 2 [.int .u8 0] [(0, (.v (.int .u8 92))), (1, (.v (.int .u8 102)))]),
        oP 48 (.append 5 1 1 [.int .u8 0] (.t 46) (.t 47)),
        oP 4 (.mv (.t 48))])
       (.seq
       (.reg 49 none [
        oP 50 (.mv (.t 6)),
        oP 51 (.bin false .eql (.t 50) (.v (.int .i64 10))),
        oP 49 (.mv (.t 51))])
       (.cond (.t 49)
        (.reg 4 none [
         oP 52 (.mv (.t 4)),
         oP 53 (.bslice 5 1 2 [.int .u8 0] [(0, (.v (.int .u8 92))), (1, (.v (.int .u8 110)))]),
         oP 54 (.append 5 1 1 [.int .u8 0] (.t 52) (.t 53)),
         oP 4 (.mv (.t 54))])
        (.seq
        (.reg 55 none [
         oP 56 (.mv (.t 6)),
         oP 57 (.bin false .eql (.t 56) (.v (.int .i64 13))),
         oP 55 (.mv (.t 57))])
        (.cond (.t 55)
         (.reg 4 none [
          oP 58 (.mv (.t 4)),
          oP 59 (.bslice 5 1 2 [.int .u8 0] [(0, (.v (.int .u8 92))), (1, (.v (.int .u8 114)))]),
          oP 60 (.append 5 1 1 [.int .u8 0] (.t 58) (.t 59)),
          oP 4 (.mv (.t 60))])
         (.seq
         (.reg 61 none [
          oP 62 (.mv (.t 6)),
          oP 63 (.bin false .eql (.t 62) (.v (.int .i64 9))),
          oP 61 (.mv (.t 63))])
         (.cond (.t 61)
          (.reg 4 none [
           oP 64 (.mv (.t 4)),
           oP 65 (.bslice 5 1 2 [.int .u8 0] [(0, (.v (.int .u8 92))), (1, (.v (.int .u8 116)))]),
           oP 66 (.append 5 1 1 [.int .u8 0] (.t 64) (.t 65)),
           oP 4 (.mv (.t 66))])
          (.seq
          (.reg 67 none [
           oP 68 (.mv (.t 6)),
           oP 69 (.bin false .lss (.t 68) (.v (.int .i64 32))),
           oP 67 (.mv (.t 69))])
          (.cond (.t 67)
           (.reg 4 (some [0, 1, 2, 3, 4, 5, 6, 7, 8, 9, 10, 11]) [
            oP 70 (.mv (.t 4)),
            oP 71 (.mv (.t 3)),
            oP 72 (.mv (.t 6)),
            oP 73 (.bin false .quo (.t 72) (.v (.int .i64 16))),
            oP 74 (.index (.t 71) (.t 73)),
            oP 75 (.mv (.t 3)),
            oP 76 (.mv (.t 6)),
            oP 77 (.bin false .rem (.t 76) (.v (.int .i64 16))),
            oP 78 (.index (.t 75) (.t 77)),
            oP 79 (.bslice 5 1 6 [.int .u8 0] [(0, (.v (.int .u8 92))), (1, (.v (.int .u8 117))), (2, (.v (.int .u8 48))), (3, (.v (.int .u8 48))), (4, (.t 74)), (5, (.t 78))]),
            oP 80 (.append 5 1 1 [.int .u8 0] (.t 70) (.t 79)),
            oP 4 (.mv (.t 80))])
           (.reg 4 none [
            oP 18 (.mv (.t 4)),
            oP 19 (.mv (.t 0)),
            oP 20 (.mv (.t 5)),
            oP 21 (.index (.t 19) (.t 20)),
            oP 22 (.bslice 5 1 1 [.int .u8 0] [(0, (.t 21))]),
            oP 23 (.append 5 1 1 [.int .u8 0] (.t 18) (.t 22)),
            oP 4 (.mv (.t 23))]))))))))))))))))))
  (.canon [] [0, 3, 4, 5] (.sub 1 zay_b1)))))
def zay_q : IQ :=
 (.seq
 (.reg 2 none [
  oP 2 (.mv (.v (.string ⟨#[]⟩)))])
 (.seq
 (.reg 3 none [
  oP 3 (.mv (.v (.string ⟨#[48, 49, 50, 51, 52, 53, 54, 55, 56, 57, 97, 98, 99, 100, 101, 102]⟩)))])
 (.seq
 (.reg 4 none [
  oP 7 (.bslice 5 1 1 [.int .u8 0] [(0, (.v (.int .u8 34)))]),
  oP 4 (.mv (.t 7))])
 (.seq
 (.seq
 (.reg 5 none [
  oP 5 (.mv (.v (.int .i64 0)))])
 (.block 0
  (.canon [] [0, 3, 4, 5] (.sub 0 zay_b0))))
 (.seq
 (.reg 2 none [
  oP 81 (.mv (.t 4)),
  oP 82 (.bslice 5 1 1 [.int .u8 0] [(0, (.v (.int .u8 34)))]),
  oP 83 (.append 5 1 1 [.int .u8 0] (.t 81) (.t 82)),
  oP 84 (.ext .toStr [(.t 83)]),
  oP 2 (.mv (.t 84))])
 (.canon [] [2] .ret))))))
theorem zay_chk : chk Tryd.prog 116 [] = some (zay_q.erase, [.tmp 2], 85) := by kernel_rfl
def zay_p1 (i : Int) : Option Int :=
 gd (InI64 (i + (1 : Int))) <|
 some (i + (1 : Int))
def zay_p0_step (s : ByteArray) (hex : ByteArray) (i : Int) (b : List Int) : Option ((Int × (List Int)) ⊕ ((List Int))) :=
 bif decide (i < (s.size : Int)) then (
  gd (0 ≤ i ∧ i < s.size) <|
  gd (InI64 (bAt s i)) <|
  bif ((decide ((bAt s i) = (34 : Int))) || (decide ((bAt s i) = (92 : Int)))) then (
   gd (0 ≤ i ∧ i < s.size) <|
   gd (b.length + ([(92 : Int), (bAt s i)] : List Int).length ≤ 9223372036854775807 ∧ (b.length + ([(92 : Int), (bAt s i)] : List Int).length) * 1 ≤ 140737488355328) <|
   (zay_p1 i).bind fun o3 =>
   some (.inl (o3, (b ++ [(92 : Int), (bAt s i)]))))
  else (
   bif decide ((bAt s i) = (8 : Int)) then (
    gd (b.length + ([(92 : Int), (98 : Int)] : List Int).length ≤ 9223372036854775807 ∧ (b.length + ([(92 : Int), (98 : Int)] : List Int).length) * 1 ≤ 140737488355328) <|
    (zay_p1 i).bind fun o4 =>
    some (.inl (o4, (b ++ [(92 : Int), (98 : Int)]))))
   else (
    bif decide ((bAt s i) = (12 : Int)) then (
     gd (b.length + ([(92 : Int), (102 : Int)] : List Int).length ≤ 9223372036854775807 ∧ (b.length + ([(92 : Int), (102 : Int)] : List Int).length) * 1 ≤ 140737488355328) <|
     (zay_p1 i).bind fun o5 =>
     some (.inl (o5, (b ++ [(92 : Int), (102 : Int)]))))
    else (
     bif decide ((bAt s i) = (10 : Int)) then (
      gd (b.length + ([(92 : Int), (110 : Int)] : List Int).length ≤ 9223372036854775807 ∧ (b.length + ([(92 : Int), (110 : Int)] : List Int).length) * 1 ≤ 140737488355328) <|
      (zay_p1 i).bind fun o6 =>
      some (.inl (o6, (b ++ [(92 : Int), (110 : Int)]))))
     else (
      bif decide ((bAt s i) = (13 : Int)) then (
       gd (b.length + ([(92 : Int), (114 : Int)] : List Int).length ≤ 9223372036854775807 ∧ (b.length + ([(92 : Int), (114 : Int)] : List Int).length) * 1 ≤ 140737488355328) <|
       (zay_p1 i).bind fun o7 =>
       some (.inl (o7, (b ++ [(92 : Int), (114 : Int)]))))
      else (
       bif decide ((bAt s i) = (9 : Int)) then (
        gd (b.length + ([(92 : Int), (116 : Int)] : List Int).length ≤ 9223372036854775807 ∧ (b.length + ([(92 : Int), (116 : Int)] : List Int).length) * 1 ≤ 140737488355328) <|
        (zay_p1 i).bind fun o8 =>
        some (.inl (o8, (b ++ [(92 : Int), (116 : Int)]))))
       else (
        bif decide ((bAt s i) < (32 : Int)) then (
         gd (0 ≤ (bAt s i) ∧ (bAt s i) ≤ 9223372036854775807 ∧ 1 ≤ (16 : Int)) <|
         gd (0 ≤ ((bAt s i) / (16 : Int)) ∧ ((bAt s i) / (16 : Int)) < hex.size) <|
         gd (0 ≤ (bAt s i) ∧ 1 ≤ (16 : Int)) <|
         gd (0 ≤ ((bAt s i) % (16 : Int)) ∧ ((bAt s i) % (16 : Int)) < hex.size) <|
         gd (b.length + ([(92 : Int), (117 : Int), (48 : Int), (48 : Int), (bAt hex ((bAt s i) / (16 : Int))), (bAt hex ((bAt s i) % (16 : Int)))] : List Int).length ≤ 9223372036854775807 ∧ (b.length + ([(92 : Int), (117 : Int), (48 : Int), (48 : Int), (bAt hex ((bAt s i) / (16 : Int))), (bAt hex ((bAt s i) % (16 : Int)))] : List Int).length) * 1 ≤ 140737488355328) <|
         (zay_p1 i).bind fun o9 =>
         some (.inl (o9, (b ++ [(92 : Int), (117 : Int), (48 : Int), (48 : Int), (bAt hex ((bAt s i) / (16 : Int))), (bAt hex ((bAt s i) % (16 : Int)))]))))
        else (
         gd (0 ≤ i ∧ i < s.size) <|
         gd (b.length + ([(bAt s i)] : List Int).length ≤ 9223372036854775807 ∧ (b.length + ([(bAt s i)] : List Int).length) * 1 ≤ 140737488355328) <|
         (zay_p1 i).bind fun o10 =>
         some (.inl (o10, (b ++ [(bAt s i)])))))))))))
 else (
  some (.inr b))
def zay_p0 (s : ByteArray) (hex : ByteArray) (i : Int) (b : List Int) : Option ((List Int)) :=
 whileO (fun x : (Int × (List Int)) => zay_p0_step s hex x.1 x.2) (i, b)
def zay_s (s : ByteArray) : Option ByteArray :=
 (zay_p0 s (⟨#[48, 49, 50, 51, 52, 53, 54, 55, 56, 57, 97, 98, 99, 100, 101, 102]⟩ : ByteArray) (0 : Int) [(34 : Int)]).bind fun o11 =>
 gd (o11.length + ([(34 : Int)] : List Int).length ≤ 9223372036854775807 ∧ (o11.length + ([(34 : Int)] : List Int).length) * 1 ≤ 140737488355328) <|
 some (bytesI (o11 ++ [(34 : Int)]))
def zay_G : Nat → Option CQ := tblQ []
theorem zay_Gok : ∀ f C, zay_G f = some C → ValidQ Tryd.prog f C := fun f C h => by cases h
def zay_d1 := (dQS (dCons (dSl 0 (dVC (dCO dS))) (dCons (dSl 3 (dVC (dCO dS))) (dCons (dSl 4 (dVC (dCO (dO 0)))) (dCons (dSl 5 (dVC (dCO (dI .i64)))) dNil)))) (dCons (dRow .u8 5) dNil))
def zay_l1 : SubQ := fun S R kn kx kr => (Dec.d zay_d1 S).bind fun x => (zay_p1 x.1.2.2.2.1).bind fun r => kn ⟨[(0, [], .c (.o (.val (.string x.1.1)))), (3, [], .c (.o (.val (.string x.1.2.1)))), (4, [], .c (.o (.own 0))), (5, [], .c (.o (.val (.int .i64 r))))], [], [.row .u8 5 x.2.1]⟩
def zay_d0 := (dQS (dCons (dSl 0 (dVC (dCO dS))) (dCons (dSl 3 (dVC (dCO dS))) (dCons (dSl 4 (dVC (dCO (dO 0)))) (dCons (dSl 5 (dVC (dCO (dI .i64)))) dNil)))) (dCons (dRow .u8 5) dNil))
def zay_l0 : SubQ := fun S R kn kx kr => (Dec.d zay_d0 S).bind fun x => (zay_p0 x.1.1 x.1.2.1 x.1.2.2.2.1 x.2.1).bind fun r => kx 0 ⟨[(4, [], .c (.o (.own 0)))], [], [.row .u8 5 r]⟩
def zay_L : Nat → SubQ := tblL [(1, zay_l1), (0, zay_l0)]
theorem zay_p1_eq (s : ByteArray) (hex : ByteArray) (i : Int) (b : List Int) (R : Type) (kn : QS → Option R) (kx : Nat → QS → Option R) (kr : QS → Option R) :
  interpQ zay_L zay_G 0 7 85 zay_b1 ⟨[(0, [], .c (.o (.val (.string s)))), (3, [], .c (.o (.val (.string hex)))), (4, [], .c (.o (.own 0))), (5, [], .c (.o (.val (.int .i64 i))))], [], [.row .u8 5 b]⟩ kn kx kr = (zay_p1 i).bind fun r => kn ⟨[(0, [], .c (.o (.val (.string s)))), (3, [], .c (.o (.val (.string hex)))), (4, [], .c (.o (.own 0))), (5, [], .c (.o (.val (.int .i64 r))))], [], [.row .u8 5 b]⟩ := by
 simp only [zay_p1, -eq_self, bind_cond, bind_gd, Option.bind_assoc, obS, Sum.elim_inl, Sum.elim_inr, bind_elim]
 kernel_rfl
theorem zay_sub1 : SubOK zay_L zay_G 0 7 85 1 zay_b1 := sub_ok' zay_d1 (fun x R kn kx kr => (zay_p1 x.1.2.2.2.1).bind fun r => kn ⟨[(0, [], .c (.o (.val (.string x.1.1)))), (3, [], .c (.o (.val (.string x.1.2.1)))), (4, [], .c (.o (.own 0))), (5, [], .c (.o (.val (.int .i64 r))))], [], [.row .u8 5 x.2.1]⟩) (by kernel_rfl) fun x R kn kx kr => zay_p1_eq x.1.1 x.1.2.1 x.1.2.2.2.1 x.2.1 R kn kx kr
theorem zay_p0_eq (s : ByteArray) (hex : ByteArray) (i : Int) (b : List Int) (R : Type) (kn : QS → Option R) (kx : Nat → QS → Option R) (kr : QS → Option R) :
  interpQ zay_L zay_G 0 7 85 zay_b0 ⟨[(0, [], .c (.o (.val (.string s)))), (3, [], .c (.o (.val (.string hex)))), (4, [], .c (.o (.own 0))), (5, [], .c (.o (.val (.int .i64 i))))], [], [.row .u8 5 b]⟩ kn kx kr = (zay_p0 s hex i b).bind fun r => kx 0 ⟨[(4, [], .c (.o (.own 0)))], [], [.row .u8 5 r]⟩ := by
 refine loop_piece (step := fun x => zay_p0_step s hex x.1 x.2) (enc := fun x => ⟨[(0, [], .c (.o (.val (.string s)))), (3, [], .c (.o (.val (.string hex)))), (4, [], .c (.o (.own 0))), (5, [], .c (.o (.val (.int .i64 x.1))))], [], [.row .u8 5 x.2]⟩) (ko := fun r => kx 0 ⟨[(4, [], .c (.o (.own 0)))], [], [.row .u8 5 r]⟩) ?_ ?_ (i, b)
 ·intro x; kernel_rfl
 ·intro x ki; simp only [zay_p0_step, -eq_self, bind_cond, bind_gd, Option.bind_assoc, obS, Sum.elim_inl, Sum.elim_inr, bind_elim]; kernel_rfl
theorem zay_sub0 : SubOK zay_L zay_G 0 7 85 0 zay_b0 := sub_ok' zay_d0 (fun x R kn kx kr => (zay_p0 x.1.1 x.1.2.1 x.1.2.2.2.1 x.2.1).bind fun r => kx 0 ⟨[(4, [], .c (.o (.own 0)))], [], [.row .u8 5 r]⟩) (by kernel_rfl) fun x R kn kx kr => zay_p0_eq x.1.1 x.1.2.1 x.1.2.2.2.1 x.2.1 R kn kx kr
theorem zay_subs : subsOK zay_L zay_G 0 7 85 zay_q := subs_of (show AllSub zay_L zay_G 0 7 85 [(0, zay_b0), (1, zay_b1)] from ⟨zay_sub0, zay_sub1, trivial⟩)
theorem zay_eq (s : ByteArray) (R : Type) (k : SV → List SB → Option R) :
  fnQ zay_L zay_G 7 85 zay_q [.tmp 2] [.c (.o (.val (.string s)))] [] k = (zay_s s).bind fun r => k (.c (.o (.val (.string r)))) [] := by
 simp only [zay_s, -eq_self, bind_cond, bind_gd, Option.bind_assoc, obS, Sum.elim_inl, Sum.elim_inr, bind_elim]
 kernel_rfl
def zay_da := (dCons (dVC (dCO dS)) dNil)
def zay_db := (dNil : Dec Unit (List SB))
def zay_c : CS := fun args hp R k => (Dec.d zay_da args).bind fun x => (Dec.d zay_db hp).bind fun y => (zay_s x.1).bind fun r => k (.c (.o (.val (.string r)))) []
theorem zay_val : ValidS Tryd.prog 116 zay_c :=
 val_ok zay_chk 7 zay_Gok zay_da zay_db 0 (fun x y R k => (zay_s x.1).bind fun r => k (.c (.o (.val (.string r)))) []) (by kernel_rfl)
  (fun x y R k => by simp only [Option.bind_assoc, obS]) (fun x => Nat.le_of_ble_eq_true rfl) (fun y => rfl) zay_subs fun x y => zay_eq x.1 _ _
def zay_w : CQ := liftV [] zay_c
theorem zay_ok : ValidQ Tryd.prog 116 zay_w := liftV_valid zay_val

/-! ### a group that calls itself: signet/signetref3.print -/
def zbh_da := (dCons (dVC (dCO (dO 0))) (dCons (dVC (dCO (dI .i64))) dNil))
def zbh_db := (dCons (dView .node) dNil)
def zbh_cs (self : (List Eng.Node) → Int → Option ByteArray) : CS := fun args hp R k => (Dec.d zbh_da args).bind fun x => (Dec.d zbh_db hp).bind fun y => (self y.1 x.2.1).bind fun r => k (.c (.o (.val (.string r)))) [.view .node y.1]
def zbh_ws (self : (List Eng.Node) → Int → Option ByteArray) : CQ := prepQ [(0, none, some (.node, 36))] (liftV [false] (zbh_cs self))

/-! ### signet/signetref3.print -/
def zbh_b2 : IQ :=
 (.join [] [0, 5, 6, 7, 8]
 (.seq
 (.reg 10 none [
  oP 61 (.mv (.t 0)),
  oP 62 (.mv (.t 7)),
  oP 63 (.mv (.t 8)),
  oP 64 (.iaddr 1 (.t 62) (.t 63)),
  oP 65 (.load none (.t 64)),
  oP 66 (.call 83 [(.t 61), (.t 65)]),
  oP 10 (.mv (.t 66))])
 (.reg 6 none [
  oP 67 (.mv (.t 6)),
  oP 68 (.mv (.t 10)),
  oP 69 (.bin false .add (.t 67) (.t 68)),
  oP 6 (.mv (.t 69))])))
def zbh_b1 : IQ :=
 (.join [] [0, 5, 6, 7, 8]
 (.seq
 (.seq
 (.reg 47 none [
  oP 45 (.faddr 0 (.t 5)),
  oP 46 (.load none (.t 45)),
  oP 47 (.bin false .eql (.t 46) (.v (.int .i64 7)))])
 (.cond (.t 47)
  (.seq
  (.reg 9 none [
   oP 48 (.mv (.t 0)),
   oP 49 (.mv (.t 7)),
   oP 50 (.mv (.t 8)),
   oP 51 (.iaddr 1 (.t 49) (.t 50)),
   oP 52 (.load none (.t 51)),
   oP 53 (.iaddr 6 (.t 48) (.t 52)),
   oP 54 (.faddr 1 (.t 53)),
   oP 55 (.load none (.t 54)),
   oP 56 (.call 116 [(.t 55)]),
   oP 9 (.mv (.t 56))])
  (.reg 6 none [
   oP 57 (.mv (.t 6)),
   oP 58 (.mv (.t 9)),
   oP 59 (.bin false .add (.t 57) (.t 58)),
   oP 60 (.bin false .add (.t 59) (.v (.string ⟨#[58]⟩))),
   oP 6 (.mv (.t 60))]))
  .skip))
 (.canon [] [0, 5, 6, 7, 8] (.sub 2 zbh_b2))))
def zbh_b0 : IQ :=
 (.loop [0, 5, 6, 7, 8]
  (.seq
  (.seq
  (.reg 38 none [
   oP 35 (.mv (.t 8)),
   oP 36 (.mv (.t 7)),
   oP 37 (.len (.t 36)),
   oP 38 (.bin false .lss (.t 35) (.t 37))])
  (.cond (.t 38)
   .skip
   (.canon [] [5, 6] (.exit 1))))
  (.seq
  (.block 2
   (.seq
   (.seq
   (.reg 42 none [
    oP 41 (.mv (.t 8)),
    oP 42 (.bin false .gtr (.t 41) (.v (.int .i64 0)))])
   (.cond (.t 42)
    (.reg 6 none [
     oP 43 (.mv (.t 6)),
     oP 44 (.bin false .add (.t 43) (.v (.string ⟨#[44]⟩))),
     oP 6 (.mv (.t 44))])
    .skip))
   (.canon [] [0, 5, 6, 7, 8] (.sub 1 zbh_b1))))
  (.reg 8 none [
   oP 39 (.mv (.t 8)),
   oP 40 (.bin false .add (.t 39) (.v (.int .i64 1))),
   oP 8 (.mv (.t 40))]))))
def zbh_q : IQ :=
 (.seq
 (.reg 4 none [
  oP 4 (.mv (.v (.string ⟨#[]⟩)))])
 (.seq
 (.reg 0 none [
  oP 11 (.mv (.t 0)),
  oP 12 (.mv (.t 1)),
  oP 13 (.iaddr 6 (.t 11) (.t 12)),
  oP 14 (.load (some 6) (.t 13)),
  oP 5 (.alloc 36 [.int .i64 0, .string ⟨#[]⟩, .string ⟨#[]⟩, .bool false, .int .i64 0, .int .i64 0]),
  ⟨none, .store 6 (.t 5) (.t 14), none⟩])
 (.seq
 (.seq
 (.reg 16 none [
  oP 15 (.faddr 0 (.t 5)),
  oP 16 (.load none (.t 15))])
 (.block 0
  (.seq
  (.reg 17 none [
   oP 18 (.bin false .eql (.t 16) (.v (.int .i64 1))),
   oP 17 (.mv (.t 18))])
  (.cond (.t 17)
   (.seq
   (.reg 4 none [
    oP 4 (.mv (.v (.string ⟨#[110, 117, 108, 108]⟩)))])
   (.canon [] [4] .ret))
   (.seq
   (.reg 19 none [
    oP 20 (.bin false .eql (.t 16) (.v (.int .i64 2))),
    oP 19 (.mv (.t 20))])
   (.cond (.t 19)
    (.seq
    (.reg 4 none [
     oP 4 (.mv (.v (.string ⟨#[102, 97, 108, 115, 101]⟩)))])
    (.canon [] [4] .ret))
    (.seq
    (.reg 21 none [
     oP 22 (.bin false .eql (.t 16) (.v (.int .i64 3))),
     oP 21 (.mv (.t 22))])
    (.cond (.t 21)
     (.seq
     (.reg 4 none [
      oP 4 (.mv (.v (.string ⟨#[116, 114, 117, 101]⟩)))])
     (.canon [] [4] .ret))
     (.seq
     (.reg 23 none [
      oP 24 (.bin false .eql (.t 16) (.v (.int .i64 4))),
      oP 23 (.mv (.t 24))])
     (.cond (.t 23)
      (.seq
      (.reg 4 none [
       oP 25 (.faddr 2 (.t 5)),
       oP 26 (.load none (.t 25)),
       oP 4 (.mv (.t 26))])
      (.canon [] [4] .ret))
      (.seq
      (.reg 27 none [
       oP 28 (.bin false .eql (.t 16) (.v (.int .i64 5))),
       oP 27 (.mv (.t 28))])
      (.cond (.t 27)
       (.seq
       (.reg 4 none [
        oP 29 (.faddr 2 (.t 5)),
        oP 30 (.load none (.t 29)),
        oP 31 (.call 116 [(.t 30)]),
        oP 4 (.mv (.t 31))])
       (.canon [] [4] .ret))
       .skip))))))))))))
 (.seq
 (.reg 6 none [
  oP 6 (.mv (.v (.string ⟨#[]⟩)))])
 (.seq
 (.reg 7 none [
  oP 32 (.mv (.t 0)),
  oP 33 (.mv (.t 1)),
  oP 34 (.call 28 [(.t 32), (.t 33)]),
  oP 7 (.mv (.t 34))])
 (.seq
 (.seq
 (.reg 8 none [
  oP 8 (.mv (.v (.int .i64 0)))])
 (.block 1
  (.canon [] [0, 5, 6, 7, 8] (.sub 0 zbh_b0))))
 (.seq
 (.seq
 (.reg 72 none [
  oP 70 (.faddr 0 (.t 5)),
  oP 71 (.load none (.t 70)),
  oP 72 (.bin false .eql (.t 71) (.v (.int .i64 7)))])
 (.cond (.t 72)
  (.seq
  (.reg 4 none [
   oP 73 (.mv (.t 6)),
   oP 74 (.bin false .add (.v (.string ⟨#[123]⟩)) (.t 73)),
   oP 75 (.bin false .add (.t 74) (.v (.string ⟨#[125]⟩))),
   oP 4 (.mv (.t 75))])
  (.canon [] [4] .ret))
  .skip))
 (.seq
 (.reg 4 none [
  oP 76 (.mv (.t 6)),
  oP 77 (.bin false .add (.v (.string ⟨#[91]⟩)) (.t 76)),
  oP 78 (.bin false .add (.t 77) (.v (.string ⟨#[93]⟩))),
  oP 4 (.mv (.t 78))])
 (.canon [] [4] .ret)))))))))
theorem zbh_chk : chk Tryd.prog 83 [] = some (zbh_q.erase, [.tmp 4], 79) := by kernel_rfl
def zbh_p2 (self : (List Eng.Node) → Int → Option ByteArray) (s : ByteArray) (i : Int) (v : List Eng.Node) (l : List Int) : Option ByteArray :=
 gd (0 ≤ i ∧ i < l.length) <|
 gd ((Int.toNat i) < l.length) <|
 (self v (l.getD (Int.toNat i) (ET.dft .i64))).bind fun r18 =>
 gd (s.size + r18.size ≤ 9223372036854775807) <|
 some (s ++ r18)
def zbh_p1 (self : (List Eng.Node) → Int → Option ByteArray) (s : ByteArray) (i : Int) (v : List Eng.Node) (n_Kind : Int) (l : List Int) : Option ByteArray :=
 bif decide (n_Kind = (7 : Int)) then (
  gd (0 ≤ i ∧ i < l.length) <|
  gd ((Int.toNat i) < l.length) <|
  gd (0 ≤ (l.getD (Int.toNat i) (ET.dft .i64)) ∧ (l.getD (Int.toNat i) (ET.dft .i64)) < v.length) <|
  gd ((Int.toNat (l.getD (Int.toNat i) (ET.dft .i64))) < v.length) <|
  gd ((Int.toNat (l.getD (Int.toNat i) (ET.dft .i64))) < v.length) <|
  (zay_s ((v.getD (Int.toNat (l.getD (Int.toNat i) (ET.dft .i64))) (ET.dft .node)).key)).bind fun r17 =>
  gd (s.size + r17.size ≤ 9223372036854775807) <|
  gd ((s ++ r17).size + (⟨#[58]⟩ : ByteArray).size ≤ 9223372036854775807) <|
  (zbh_p2 self ((s ++ r17) ++ (⟨#[58]⟩ : ByteArray)) i v l).bind fun o19 =>
  some o19)
 else (
  (zbh_p2 self s i v l).bind fun o20 =>
  some o20)
def zbh_p0_step (self : (List Eng.Node) → Int → Option ByteArray) (s : ByteArray) (i : Int) (v : List Eng.Node) (n_Kind : Int) (l : List Int) : Option ((ByteArray × Int) ⊕ ByteArray) :=
 bif decide (i < (l.length : Int)) then (
  bif decide ((0 : Int) < i) then (
   gd (s.size + (⟨#[44]⟩ : ByteArray).size ≤ 9223372036854775807) <|
   (zbh_p1 self (s ++ (⟨#[44]⟩ : ByteArray)) i v n_Kind l).bind fun o21 =>
   gd (InI64 (i + (1 : Int))) <|
   some (.inl (o21, (i + (1 : Int)))))
  else (
   (zbh_p1 self s i v n_Kind l).bind fun o22 =>
   gd (InI64 (i + (1 : Int))) <|
   some (.inl (o22, (i + (1 : Int))))))
 else (
  some (.inr s))
def zbh_p0 (self : (List Eng.Node) → Int → Option ByteArray) (s : ByteArray) (i : Int) (v : List Eng.Node) (n_Kind : Int) (l : List Int) : Option ByteArray :=
 whileO (fun x : (ByteArray × Int) => zbh_p0_step self x.1 x.2 v n_Kind l) (s, i)
def zbh_t (self : (List Eng.Node) → Int → Option ByteArray) (v : (List Eng.Node)) (at_ : Int) : Option ByteArray :=
 gd (0 ≤ at_ ∧ at_ < v.length) <|
 gd ((Int.toNat at_) < v.length) <|
 bif decide (((v.getD (Int.toNat at_) (ET.dft .node)).kind) = (1 : Int)) then (
  some (⟨#[110, 117, 108, 108]⟩ : ByteArray))
 else (
  bif decide (((v.getD (Int.toNat at_) (ET.dft .node)).kind) = (2 : Int)) then (
   some (⟨#[102, 97, 108, 115, 101]⟩ : ByteArray))
  else (
   bif decide (((v.getD (Int.toNat at_) (ET.dft .node)).kind) = (3 : Int)) then (
    some (⟨#[116, 114, 117, 101]⟩ : ByteArray))
   else (
    bif decide (((v.getD (Int.toNat at_) (ET.dft .node)).kind) = (4 : Int)) then (
     some ((v.getD (Int.toNat at_) (ET.dft .node)).text))
    else (
     bif decide (((v.getD (Int.toNat at_) (ET.dft .node)).kind) = (5 : Int)) then (
      (zay_s ((v.getD (Int.toNat at_) (ET.dft .node)).text)).bind fun r15 =>
      some r15)
     else (
      (zaw_s v at_).bind fun r16 =>
      (zbh_p0 self (⟨#[]⟩ : ByteArray) (0 : Int) v ((v.getD (Int.toNat at_) (ET.dft .node)).kind) r16).bind fun o23 =>
      bif decide (((v.getD (Int.toNat at_) (ET.dft .node)).kind) = (7 : Int)) then (
       gd ((⟨#[123]⟩ : ByteArray).size + o23.size ≤ 9223372036854775807) <|
       gd (((⟨#[123]⟩ : ByteArray) ++ o23).size + (⟨#[125]⟩ : ByteArray).size ≤ 9223372036854775807) <|
       some (((⟨#[123]⟩ : ByteArray) ++ o23) ++ (⟨#[125]⟩ : ByteArray)))
      else (
       gd ((⟨#[91]⟩ : ByteArray).size + o23.size ≤ 9223372036854775807) <|
       gd (((⟨#[91]⟩ : ByteArray) ++ o23).size + (⟨#[93]⟩ : ByteArray).size ≤ 9223372036854775807) <|
       some (((⟨#[91]⟩ : ByteArray) ++ o23) ++ (⟨#[93]⟩ : ByteArray))))))))
def zbh_G (self : (List Eng.Node) → Int → Option ByteArray) : Nat → Option CQ := tblQ [(116, zay_w), (28, zaw_w), (83, zbh_ws self)]
theorem zbh_Gok (self : (List Eng.Node) → Int → Option ByteArray) (hself : ValidQ Tryd.prog 83 (zbh_ws self)) : ∀ f C, (zbh_G self) f = some C → ValidQ Tryd.prog f C := tblQ_valid ⟨zay_ok, zaw_ok, hself, trivial⟩
def zbh_d2 := (dQS (dCons (dSl 0 (dVC (dCO (dO 0)))) (dCons (dSl 5 (dVC (dCO (dH 1 0)))) (dCons (dSl 6 (dVC (dCO dS))) (dCons (dSl 7 (dVC (dCO (dO 2)))) (dCons (dSl 8 (dVC (dCO (dI .i64)))) dNil))))) (dCons (dView .node) (dCons (dCells 36 (dCons (dI .i64) (dCons dS (dCons dS (dCons dB (dCons (dI .i64) (dCons (dI .i64) dNil))))))) (dCons (dRow .i64 3) dNil))))
def zbh_l2 (self : (List Eng.Node) → Int → Option ByteArray) : SubQ := fun S R kn kx kr => (Dec.d zbh_d2 S).bind fun x => (zbh_p2 self x.1.2.2.1 x.1.2.2.2.2.1 x.2.1 x.2.2.2.1).bind fun r => kn ⟨[(0, [], .c (.o (.own 0))), (5, [], .c (.o (.hd 1 0))), (6, [], .c (.o (.val (.string r)))), (7, [], .c (.o (.own 2))), (8, [], .c (.o (.val (.int .i64 x.1.2.2.2.2.1))))], [], [.view .node x.2.1, .cells 36 [.val (.int .i64 x.2.2.1.1), .val (.string x.2.2.1.2.1), .val (.string x.2.2.1.2.2.1), .val (.bool x.2.2.1.2.2.2.1), .val (.int .i64 x.2.2.1.2.2.2.2.1), .val (.int .i64 x.2.2.1.2.2.2.2.2.1)], .row .i64 3 x.2.2.2.1]⟩
def zbh_d1 := (dQS (dCons (dSl 0 (dVC (dCO (dO 0)))) (dCons (dSl 5 (dVC (dCO (dH 1 0)))) (dCons (dSl 6 (dVC (dCO dS))) (dCons (dSl 7 (dVC (dCO (dO 2)))) (dCons (dSl 8 (dVC (dCO (dI .i64)))) dNil))))) (dCons (dView .node) (dCons (dCells 36 (dCons (dI .i64) (dCons dS (dCons dS (dCons dB (dCons (dI .i64) (dCons (dI .i64) dNil))))))) (dCons (dRow .i64 3) dNil))))
def zbh_l1 (self : (List Eng.Node) → Int → Option ByteArray) : SubQ := fun S R kn kx kr => (Dec.d zbh_d1 S).bind fun x => (zbh_p1 self x.1.2.2.1 x.1.2.2.2.2.1 x.2.1 x.2.2.1.1 x.2.2.2.1).bind fun r => kn ⟨[(0, [], .c (.o (.own 0))), (5, [], .c (.o (.hd 1 0))), (6, [], .c (.o (.val (.string r)))), (7, [], .c (.o (.own 2))), (8, [], .c (.o (.val (.int .i64 x.1.2.2.2.2.1))))], [], [.view .node x.2.1, .cells 36 [.val (.int .i64 x.2.2.1.1), .val (.string x.2.2.1.2.1), .val (.string x.2.2.1.2.2.1), .val (.bool x.2.2.1.2.2.2.1), .val (.int .i64 x.2.2.1.2.2.2.2.1), .val (.int .i64 x.2.2.1.2.2.2.2.2.1)], .row .i64 3 x.2.2.2.1]⟩
def zbh_d0 := (dQS (dCons (dSl 0 (dVC (dCO (dO 0)))) (dCons (dSl 5 (dVC (dCO (dH 1 0)))) (dCons (dSl 6 (dVC (dCO dS))) (dCons (dSl 7 (dVC (dCO (dO 2)))) (dCons (dSl 8 (dVC (dCO (dI .i64)))) dNil))))) (dCons (dView .node) (dCons (dCells 36 (dCons (dI .i64) (dCons dS (dCons dS (dCons dB (dCons (dI .i64) (dCons (dI .i64) dNil))))))) (dCons (dRow .i64 3) dNil))))
def zbh_l0 (self : (List Eng.Node) → Int → Option ByteArray) : SubQ := fun S R kn kx kr => (Dec.d zbh_d0 S).bind fun x => (zbh_p0 self x.1.2.2.1 x.1.2.2.2.2.1 x.2.1 x.2.2.1.1 x.2.2.2.1).bind fun r => kx 1 ⟨[(5, [], .c (.o (.hd 1 0))), (6, [], .c (.o (.val (.string r))))], [], [.view .node x.2.1, .cells 36 [.val (.int .i64 x.2.2.1.1), .val (.string x.2.2.1.2.1), .val (.string x.2.2.1.2.2.1), .val (.bool x.2.2.1.2.2.2.1), .val (.int .i64 x.2.2.1.2.2.2.2.1), .val (.int .i64 x.2.2.1.2.2.2.2.2.1)]]⟩
def zbh_L (self : (List Eng.Node) → Int → Option ByteArray) : Nat → SubQ := tblL [(2, zbh_l2 self), (1, zbh_l1 self), (0, zbh_l0 self)]
theorem zbh_p2_eq (self : (List Eng.Node) → Int → Option ByteArray) (s : ByteArray) (i : Int) (v : List Eng.Node) (n_Kind : Int) (n_Key : ByteArray) (n_Text : ByteArray) (n_Whole : Bool) (n_Int : Int) (n_Kids : Int) (l : List Int) (R : Type) (kn : QS → Option R) (kx : Nat → QS → Option R) (kr : QS → Option R) :
  interpQ (zbh_L self) (zbh_G self) 1 17 79 zbh_b2 ⟨[(0, [], .c (.o (.own 0))), (5, [], .c (.o (.hd 1 0))), (6, [], .c (.o (.val (.string s)))), (7, [], .c (.o (.own 2))), (8, [], .c (.o (.val (.int .i64 i))))], [], [.view .node v, .cells 36 [.val (.int .i64 n_Kind), .val (.string n_Key), .val (.string n_Text), .val (.bool n_Whole), .val (.int .i64 n_Int), .val (.int .i64 n_Kids)], .row .i64 3 l]⟩ kn kx kr = (zbh_p2 self s i v l).bind fun r => kn ⟨[(0, [], .c (.o (.own 0))), (5, [], .c (.o (.hd 1 0))), (6, [], .c (.o (.val (.string r)))), (7, [], .c (.o (.own 2))), (8, [], .c (.o (.val (.int .i64 i))))], [], [.view .node v, .cells 36 [.val (.int .i64 n_Kind), .val (.string n_Key), .val (.string n_Text), .val (.bool n_Whole), .val (.int .i64 n_Int), .val (.int .i64 n_Kids)], .row .i64 3 l]⟩ := by
 simp only [zbh_p2, -eq_self, bind_cond, bind_gd, Option.bind_assoc, obS, Sum.elim_inl, Sum.elim_inr, bind_elim]
 kernel_rfl
theorem zbh_sub2 (self : (List Eng.Node) → Int → Option ByteArray) : SubOK (zbh_L self) (zbh_G self) 1 17 79 2 zbh_b2 := sub_ok' zbh_d2 (fun x R kn kx kr => (zbh_p2 self x.1.2.2.1 x.1.2.2.2.2.1 x.2.1 x.2.2.2.1).bind fun r => kn ⟨[(0, [], .c (.o (.own 0))), (5, [], .c (.o (.hd 1 0))), (6, [], .c (.o (.val (.string r)))), (7, [], .c (.o (.own 2))), (8, [], .c (.o (.val (.int .i64 x.1.2.2.2.2.1))))], [], [.view .node x.2.1, .cells 36 [.val (.int .i64 x.2.2.1.1), .val (.string x.2.2.1.2.1), .val (.string x.2.2.1.2.2.1), .val (.bool x.2.2.1.2.2.2.1), .val (.int .i64 x.2.2.1.2.2.2.2.1), .val (.int .i64 x.2.2.1.2.2.2.2.2.1)], .row .i64 3 x.2.2.2.1]⟩) (by kernel_rfl) fun x R kn kx kr => zbh_p2_eq self x.1.2.2.1 x.1.2.2.2.2.1 x.2.1 x.2.2.1.1 x.2.2.1.2.1 x.2.2.1.2.2.1 x.2.2.1.2.2.2.1 x.2.2.1.2.2.2.2.1 x.2.2.1.2.2.2.2.2.1 x.2.2.2.1 R kn kx kr
theorem zbh_p1_eq (self : (List Eng.Node) → Int → Option ByteArray) (s : ByteArray) (i : Int) (v : List Eng.Node) (n_Kind : Int) (n_Key : ByteArray) (n_Text : ByteArray) (n_Whole : Bool) (n_Int : Int) (n_Kids : Int) (l : List Int) (R : Type) (kn : QS → Option R) (kx : Nat → QS → Option R) (kr : QS → Option R) :
  interpQ (zbh_L self) (zbh_G self) 1 17 79 zbh_b1 ⟨[(0, [], .c (.o (.own 0))), (5, [], .c (.o (.hd 1 0))), (6, [], .c (.o (.val (.string s)))), (7, [], .c (.o (.own 2))), (8, [], .c (.o (.val (.int .i64 i))))], [], [.view .node v, .cells 36 [.val (.int .i64 n_Kind), .val (.string n_Key), .val (.string n_Text), .val (.bool n_Whole), .val (.int .i64 n_Int), .val (.int .i64 n_Kids)], .row .i64 3 l]⟩ kn kx kr = (zbh_p1 self s i v n_Kind l).bind fun r => kn ⟨[(0, [], .c (.o (.own 0))), (5, [], .c (.o (.hd 1 0))), (6, [], .c (.o (.val (.string r)))), (7, [], .c (.o (.own 2))), (8, [], .c (.o (.val (.int .i64 i))))], [], [.view .node v, .cells 36 [.val (.int .i64 n_Kind), .val (.string n_Key), .val (.string n_Text), .val (.bool n_Whole), .val (.int .i64 n_Int), .val (.int .i64 n_Kids)], .row .i64 3 l]⟩ := by
 simp only [zbh_p1, -eq_self, bind_cond, bind_gd, Option.bind_assoc, obS, Sum.elim_inl, Sum.elim_inr, bind_elim]
 kernel_rfl
theorem zbh_sub1 (self : (List Eng.Node) → Int → Option ByteArray) : SubOK (zbh_L self) (zbh_G self) 1 17 79 1 zbh_b1 := sub_ok' zbh_d1 (fun x R kn kx kr => (zbh_p1 self x.1.2.2.1 x.1.2.2.2.2.1 x.2.1 x.2.2.1.1 x.2.2.2.1).bind fun r => kn ⟨[(0, [], .c (.o (.own 0))), (5, [], .c (.o (.hd 1 0))), (6, [], .c (.o (.val (.string r)))), (7, [], .c (.o (.own 2))), (8, [], .c (.o (.val (.int .i64 x.1.2.2.2.2.1))))], [], [.view .node x.2.1, .cells 36 [.val (.int .i64 x.2.2.1.1), .val (.string x.2.2.1.2.1), .val (.string x.2.2.1.2.2.1), .val (.bool x.2.2.1.2.2.2.1), .val (.int .i64 x.2.2.1.2.2.2.2.1), .val (.int .i64 x.2.2.1.2.2.2.2.2.1)], .row .i64 3 x.2.2.2.1]⟩) (by kernel_rfl) fun x R kn kx kr => zbh_p1_eq self x.1.2.2.1 x.1.2.2.2.2.1 x.2.1 x.2.2.1.1 x.2.2.1.2.1 x.2.2.1.2.2.1 x.2.2.1.2.2.2.1 x.2.2.1.2.2.2.2.1 x.2.2.1.2.2.2.2.2.1 x.2.2.2.1 R kn kx kr
theorem zbh_p0_eq (self : (List Eng.Node) → Int → Option ByteArray) (s : ByteArray) (i : Int) (v : List Eng.Node) (n_Kind : Int) (n_Key : ByteArray) (n_Text : ByteArray) (n_Whole : Bool) (n_Int : Int) (n_Kids : Int) (l : List Int) (R : Type) (kn : QS → Option R) (kx : Nat → QS → Option R) (kr : QS → Option R) :
  interpQ (zbh_L self) (zbh_G self) 1 17 79 zbh_b0 ⟨[(0, [], .c (.o (.own 0))), (5, [], .c (.o (.hd 1 0))), (6, [], .c (.o (.val (.string s)))), (7, [], .c (.o (.own 2))), (8, [], .c (.o (.val (.int .i64 i))))], [], [.view .node v, .cells 36 [.val (.int .i64 n_Kind), .val (.string n_Key), .val (.string n_Text), .val (.bool n_Whole), .val (.int .i64 n_Int), .val (.int .i64 n_Kids)], .row .i64 3 l]⟩ kn kx kr = (zbh_p0 self s i v n_Kind l).bind fun r => kx 1 ⟨[(5, [], .c (.o (.hd 1 0))), (6, [], .c (.o (.val (.string r))))], [], [.view .node v, .cells 36 [.val (.int .i64 n_Kind), .val (.string n_Key), .val (.string n_Text), .val (.bool n_Whole), .val (.int .i64 n_Int), .val (.int .i64 n_Kids)]]⟩ := by
 refine loop_piece (step := fun x => zbh_p0_step self x.1 x.2 v n_Kind l) (enc := fun x => ⟨[(0, [], .c (.o (.own 0))), (5, [], .c (.o (.hd 1 0))), (6, [], .c (.o (.val (.string x.1)))), (7, [], .c (.o (.own 2))), (8, [], .c (.o (.val (.int .i64 x.2))))], [], [.view .node v, .cells 36 [.val (.int .i64 n_Kind), .val (.string n_Key), .val (.string n_Text), .val (.bool n_Whole), .val (.int .i64 n_Int), .val (.int .i64 n_Kids)], .row .i64 3 l]⟩) (ko := fun r => kx 1 ⟨[(5, [], .c (.o (.hd 1 0))), (6, [], .c (.o (.val (.string r))))], [], [.view .node v, .cells 36 [.val (.int .i64 n_Kind), .val (.string n_Key), .val (.string n_Text), .val (.bool n_Whole), .val (.int .i64 n_Int), .val (.int .i64 n_Kids)]]⟩) ?_ ?_ (s, i)
 ·intro x; kernel_rfl
 ·intro x ki; simp only [zbh_p0_step, -eq_self, bind_cond, bind_gd, Option.bind_assoc, obS, Sum.elim_inl, Sum.elim_inr, bind_elim]; kernel_rfl
theorem zbh_sub0 (self : (List Eng.Node) → Int → Option ByteArray) : SubOK (zbh_L self) (zbh_G self) 1 17 79 0 zbh_b0 := sub_ok' zbh_d0 (fun x R kn kx kr => (zbh_p0 self x.1.2.2.1 x.1.2.2.2.2.1 x.2.1 x.2.2.1.1 x.2.2.2.1).bind fun r => kx 1 ⟨[(5, [], .c (.o (.hd 1 0))), (6, [], .c (.o (.val (.string r))))], [], [.view .node x.2.1, .cells 36 [.val (.int .i64 x.2.2.1.1), .val (.string x.2.2.1.2.1), .val (.string x.2.2.1.2.2.1), .val (.bool x.2.2.1.2.2.2.1), .val (.int .i64 x.2.2.1.2.2.2.2.1), .val (.int .i64 x.2.2.1.2.2.2.2.2.1)]]⟩) (by kernel_rfl) fun x R kn kx kr => zbh_p0_eq self x.1.2.2.1 x.1.2.2.2.2.1 x.2.1 x.2.2.1.1 x.2.2.1.2.1 x.2.2.1.2.2.1 x.2.2.1.2.2.2.1 x.2.2.1.2.2.2.2.1 x.2.2.1.2.2.2.2.2.1 x.2.2.2.1 R kn kx kr
theorem zbh_subs (self : (List Eng.Node) → Int → Option ByteArray) : subsOK (zbh_L self) (zbh_G self) 1 17 79 zbh_q := subs_of (show AllSub (zbh_L self) (zbh_G self) 1 17 79 [(0, zbh_b0), (1, zbh_b1), (2, zbh_b2)] from ⟨(zbh_sub0 self), (zbh_sub1 self), (zbh_sub2 self), trivial⟩)
theorem zbh_eq (self : (List Eng.Node) → Int → Option ByteArray) (v : (List Eng.Node)) (at_ : Int) (R : Type) (k : SV → List SB → Option R) :
  fnQ (zbh_L self) (zbh_G self) 17 79 zbh_q [.tmp 4] [.c (.o (.own 0)), .c (.o (.val (.int .i64 at_)))] [.view .node v] k = (zbh_t self v at_).bind fun r => k (.c (.o (.val (.string r)))) [.view .node v] := by
 simp only [zbh_t, -eq_self, bind_cond, bind_gd, Option.bind_assoc, obS, Sum.elim_inl, Sum.elim_inr, bind_elim]
 kernel_rfl
theorem zbh_val_t (self : (List Eng.Node) → Int → Option ByteArray) (hself : ValidQ Tryd.prog 83 (zbh_ws self)) : ValidS Tryd.prog 83 (zbh_cs (zbh_t self)) :=
 val_ok zbh_chk 17 (zbh_Gok self hself) zbh_da zbh_db 1 (fun x y R k => (zbh_t self y.1 x.2.1).bind fun r => k (.c (.o (.val (.string r)))) [.view .node y.1]) (by kernel_rfl)
  (fun x y R k => by simp only [Option.bind_assoc, obS]) (fun x => Nat.le_of_ble_eq_true rfl) (fun y => rfl) (zbh_subs self) fun x y => zbh_eq self y.1 x.2.1 _ _
def zbh_n : Nat → (List Eng.Node) → Int → Option ByteArray
 | 0 => fun _ _ => none
 | n + 1 => zbh_t (zbh_n n)
def zbh_s (v : (List Eng.Node)) (at_ : Int) : Option ByteArray := evt fun n => zbh_n n v at_
theorem zbh_valn : ∀ n, ValidS Tryd.prog 83 (zbh_cs (zbh_n n))
 | 0 => ValidS.zero fun args hp R k => by
  show ((Dec.d zbh_da args).bind fun x => (Dec.d zbh_db hp).bind fun y => none) = none
  cases Dec.d zbh_da args with
  | none => rfl
  | some x => cases Dec.d zbh_db hp <;> rfl
 | n + 1 => zbh_val_t (zbh_n n) (prep_quiet (zbh_valn n))
theorem zbh_val : ValidS Tryd.prog 83 (zbh_cs zbh_s) := ValidS.evt zbh_valn (fun args hp R k => by
  show ((Dec.d zbh_da args).bind fun x => (Dec.d zbh_db hp).bind fun y => _) = (((Dec.d zbh_da args).bind fun x => (Dec.d zbh_db hp).bind fun y => _) : Option (SV × List SB)).bind _
  cases Dec.d zbh_da args with
  | none => rfl
  | some x =>
   cases Dec.d zbh_db hp with
   | none => rfl
   | some y => simp only [obS, Option.bind_assoc]) fun args hp v hp' h => by
  obtain ⟨x, h1, h2⟩ := Option.bind_eq_some_iff.1 h
  obtain ⟨y, h3, h4⟩ := Option.bind_eq_some_iff.1 h2
  obtain ⟨r, h5, h6⟩ := Option.bind_eq_some_iff.1 h4
  obtain ⟨n, h7⟩ := evt_some h5
  refine ⟨n, ?_⟩
  show ((Dec.d zbh_da args).bind fun x => (Dec.d zbh_db hp).bind fun y => _) = _
  rw [h1]
  simp only [obS]
  rw [h3]
  simp only [obS]
  exact (congrArg (fun z => Option.bind z _) h7).trans h6
def zbh_w : CQ := zbh_ws zbh_s
theorem zbh_ok : ValidQ Tryd.prog 83 zbh_w := prep_quiet zbh_val

/-! ### signet/signetref3.Print -/
def zax_q : IQ :=
 (.seq
 (.reg 3 none [
  oP 2 (.mv (.v (.string ⟨#[]⟩))),
  oP 3 (.mv (.v (.int .i64 0)))])
 (.seq
 (.reg 4 none [
  oP 6 (.mv (.t 0)),
  oP 7 (.call 18 [(.t 6)]),
  oP 4 (.mv (.t 7))])
 (.seq
 (.seq
 (.reg 9 none [
  oP 8 (.mv (.t 4)),
  oP 9 (.un .not (.t 8))])
 (.cond (.t 9)
  (.seq
  (.reg 3 none [
   oP 2 (.mv (.v (.string ⟨#[]⟩))),
   oP 3 (.mv (.v (.int .i64 31)))])
  (.canon [] [2, 3] .ret))
  .skip))
 (.seq
 (.reg 5 none [
  oP 10 (.mv (.t 0)),
  oP 11 (.call 83 [(.t 10), (.v (.int .i64 0))]),
  oP 5 (.mv (.t 11))])
 (.seq
 (.seq
 (.reg 14 none [
  oP 12 (.mv (.t 5)),
  oP 13 (.lenS (.t 12)),
  oP 14 (.bin false .gtr (.t 13) (.v (.int .i64 262144)))])
 (.cond (.t 14)
  (.seq
  (.reg 3 none [
   oP 2 (.mv (.v (.string ⟨#[]⟩))),
   oP 3 (.mv (.v (.int .i64 10)))])
  (.canon [] [2, 3] .ret))
  .skip))
 (.seq
 (.reg 3 none [
  oP 15 (.mv (.t 5)),
  oP 2 (.mv (.t 15)),
  oP 3 (.mv (.v (.int .i64 0)))])
 (.canon [] [2, 3] .ret)))))))
theorem zax_chk : chk Tryd.prog 41 [] = some (zax_q.erase, [.tmp 2, .tmp 3], 16) := by kernel_rfl
def zax_s (v : (List Eng.Node)) : Option (ByteArray × Int) :=
 (zba_s v).bind fun r1 =>
 bif (!r1) then (
  some ((⟨#[]⟩ : ByteArray), (31 : Int)))
 else (
  (zbh_s v (0 : Int)).bind fun r2 =>
  bif decide ((262144 : Int) < (r2.size : Int)) then (
   some ((⟨#[]⟩ : ByteArray), (10 : Int)))
  else (
   some (r2, (0 : Int))))
def zax_G : Nat → Option CQ := tblQ [(18, zba_w), (83, zbh_w)]
theorem zax_Gok : ∀ f C, zax_G f = some C → ValidQ Tryd.prog f C := tblQ_valid ⟨zba_ok, zbh_ok, trivial⟩
def zax_L : Nat → SubQ := tblL []
theorem zax_subs : subsOK zax_L zax_G 1 6 16 zax_q := subs_of (show AllSub zax_L zax_G 1 6 16 [] from trivial)
theorem zax_eq (v : (List Eng.Node)) (R : Type) (k : SV → List SB → Option R) :
  fnQ zax_L zax_G 6 16 zax_q [.tmp 2, .tmp 3] [.c (.o (.own 0))] [.view .node v] k = (zax_s v).bind fun r => k (.tup [.o (.val (.string r.1)), .o (.val (.int .i64 r.2))]) [.view .node v] := by
 simp only [zax_s, -eq_self, bind_cond, bind_gd, Option.bind_assoc, obS, Sum.elim_inl, Sum.elim_inr, bind_elim]
 kernel_rfl
def zax_da := (dCons (dVC (dCO (dO 0))) dNil)
def zax_db := (dCons (dView .node) dNil)
def zax_c : CS := fun args hp R k => (Dec.d zax_da args).bind fun x => (Dec.d zax_db hp).bind fun y => (zax_s y.1).bind fun r => k (.tup [.o (.val (.string r.1)), .o (.val (.int .i64 r.2))]) [.view .node y.1]
theorem zax_val : ValidS Tryd.prog 41 zax_c :=
 val_ok zax_chk 6 zax_Gok zax_da zax_db 1 (fun x y R k => (zax_s y.1).bind fun r => k (.tup [.o (.val (.string r.1)), .o (.val (.int .i64 r.2))]) [.view .node y.1]) (by kernel_rfl)
  (fun x y R k => by simp only [Option.bind_assoc, obS]) (fun x => Nat.le_of_ble_eq_true rfl) (fun y => rfl) zax_subs fun x y => zax_eq y.1 _ _
def zax_w : CQ := prepQ [(0, none, some (.node, 36))] (liftV [false] zax_c)
theorem zax_ok : ValidQ Tryd.prog 41 zax_w := prep_quiet zax_val

/-! ### signet/signetlaw3.still -/
def zao_q : IQ :=
 (.seq
 (.reg 4 none [
  oP 4 (.mv (.v (.bool false)))])
 (.seq
 (.reg 5 none [
  oP 7 (.mv (.t 0)),
  oP 8 (.mv (.t 1)),
  oP 9 (.call 44 [(.t 7), (.t 8)]),
  oP 5 (.mv (.t 9))])
 (.seq
 (.reg 6 none [
  oP 10 (.mv (.t 0)),
  oP 11 (.mv (.t 1)),
  oP 12 (.len (.t 11)),
  oP 13 (.bin false .add (.t 12) (.v (.int .i64 2))),
  oP 14 (.sub (some 6) (.t 10) none (some (.t 13))),
  oP 6 (.mv (.t 14))])
 (.seq
 (.reg 4 none [
  oP 15 (.mv (.t 5)),
  oP 16 (.mv (.t 15)),
  oG 17 (.mv (.t 6)) 16 true,
  oG 18 (.mv (.t 1)) 16 true,
  oG 19 (.len (.t 18)) 16 true,
  oG 20 (.iaddr 6 (.t 17) (.t 19)) 16 true,
  oG 21 (.faddr 0 (.t 20)) 16 true,
  oG 22 (.load none (.t 21)) 16 true,
  oG 23 (.bin false .eql (.t 22) (.v (.int .i64 91))) 16 true,
  oP 24 (.pick (.t 16) (.t 23) (.v (.bool false))),
  oP 25 (.mv (.t 24)),
  oG 26 (.mv (.t 6)) 25 true,
  oG 27 (.mv (.t 1)) 25 true,
  oG 28 (.len (.t 27)) 25 true,
  oG 29 (.bin false .add (.t 28) (.v (.int .i64 1))) 25 true,
  oG 30 (.iaddr 6 (.t 26) (.t 29)) 25 true,
  oG 31 (.faddr 0 (.t 30)) 25 true,
  oG 32 (.load none (.t 31)) 25 true,
  oG 33 (.bin false .eql (.t 32) (.v (.int .i64 92))) 25 true,
  oP 34 (.pick (.t 25) (.t 33) (.v (.bool false))),
  oP 4 (.mv (.t 34))])
 (.canon [] [4] .ret)))))
theorem zao_chk : chk Tryd.prog 27 [] = some (zao_q.erase, [.tmp 4], 35) := by kernel_rfl
def zao_s (k_ : (List Eng.Node)) (v : (List Eng.Node)) (k__lo : Nat) (k__n : Nat) : Option Bool :=
 gd (k__lo + k__n ≤ k_.length) <|
 (zaz_s ((k_.drop k__lo).take k__n) v).bind fun r1 =>
 gd (InI64 ((v.length : Int) + (2 : Int))) <|
 gd (0 ≤ (0 : Int) ∧ (0 : Int) ≤ ((v.length : Int) + (2 : Int)) ∧ ((k__lo : Nat) : Int) + ((v.length : Int) + (2 : Int)) ≤ (k_.length : Int)) <|
 gd (r1 = true → 0 ≤ (v.length : Int) ∧ (v.length : Int) < (((Int.toNat ((v.length : Int) + (2 : Int))) : Nat) : Int)) <|
 gd (r1 = true → (k__lo + Int.toNat (v.length : Int)) < k_.length) <|
 gd (r1 = true → (k__lo + Int.toNat (v.length : Int)) < k_.length) <|
 gd ((r1 && (decide (((k_.getD (k__lo + Int.toNat (v.length : Int)) (ET.dft .node)).kind) = (91 : Int)))) = true → InI64 ((v.length : Int) + (1 : Int))) <|
 gd ((r1 && (decide (((k_.getD (k__lo + Int.toNat (v.length : Int)) (ET.dft .node)).kind) = (91 : Int)))) = true → 0 ≤ ((v.length : Int) + (1 : Int)) ∧ ((v.length : Int) + (1 : Int)) < (((Int.toNat ((v.length : Int) + (2 : Int))) : Nat) : Int)) <|
 gd ((r1 && (decide (((k_.getD (k__lo + Int.toNat (v.length : Int)) (ET.dft .node)).kind) = (91 : Int)))) = true → (k__lo + Int.toNat ((v.length : Int) + (1 : Int))) < k_.length) <|
 gd ((r1 && (decide (((k_.getD (k__lo + Int.toNat (v.length : Int)) (ET.dft .node)).kind) = (91 : Int)))) = true → (k__lo + Int.toNat ((v.length : Int) + (1 : Int))) < k_.length) <|
 some ((r1 && (decide (((k_.getD (k__lo + Int.toNat (v.length : Int)) (ET.dft .node)).kind) = (91 : Int)))) && (decide (((k_.getD (k__lo + Int.toNat ((v.length : Int) + (1 : Int))) (ET.dft .node)).kind) = (92 : Int))))
def zao_G : Nat → Option CQ := tblQ [(44, zaz_w)]
theorem zao_Gok : ∀ f C, zao_G f = some C → ValidQ Tryd.prog f C := tblQ_valid ⟨zaz_ok, trivial⟩
def zao_L : Nat → SubQ := tblL []
theorem zao_subs : subsOK zao_L zao_G 3 7 35 zao_q := subs_of (show AllSub zao_L zao_G 3 7 35 [] from trivial)
theorem zao_eq (k_ : (List Eng.Node)) (v : (List Eng.Node)) (k__lo : Nat) (k__n : Nat) (R : Type) (k : SV → List SB → Option R) :
  fnQ zao_L zao_G 7 35 zao_q [.tmp 4] [.c (.o (.own 0)), .c (.o (.own 1))] [.part 2 k__lo k__n 6, .view .node v, .view .node k_] k = (zao_s k_ v k__lo k__n).bind fun r => k (.c (.o (.val (.bool r)))) [.part 2 k__lo k__n 6, .view .node v, .view .node k_] := by
 simp only [zao_s, -eq_self, bind_cond, bind_gd, Option.bind_assoc, obS, Sum.elim_inl, Sum.elim_inr, bind_elim]
 kernel_rfl
def zao_da := (dCons (dVC (dCO (dO 0))) (dCons (dVC (dCO (dO 1))) dNil))
def zao_db := (dCons (dPart 2 6) (dCons (dView .node) (dCons (dView .node) dNil)))
def zao_c : CS := fun args hp R k => (Dec.d zao_da args).bind fun x => (Dec.d zao_db hp).bind fun y => (zao_s y.2.2.1 y.2.1 y.1.1 y.1.2).bind fun r => k (.c (.o (.val (.bool r)))) [.part 2 y.1.1 y.1.2 6, .view .node y.2.1, .view .node y.2.2.1]
theorem zao_val : ValidS Tryd.prog 27 zao_c :=
 val_ok zao_chk 7 zao_Gok zao_da zao_db 3 (fun x y R k => (zao_s y.2.2.1 y.2.1 y.1.1 y.1.2).bind fun r => k (.c (.o (.val (.bool r)))) [.part 2 y.1.1 y.1.2 6, .view .node y.2.1, .view .node y.2.2.1]) (by kernel_rfl)
  (fun x y R k => by simp only [Option.bind_assoc, obS]) (fun x => Nat.le_of_ble_eq_true rfl) (fun y => rfl) zao_subs fun x y => zao_eq y.2.2.1 y.2.1 y.1.1 y.1.2 _ _
def zao_w : CQ := prepQ [(0, none, some (.node, 36)), (1, none, some (.node, 36))] (liftE [false, false, false] zao_c)
theorem zao_ok : ValidQ Tryd.prog 27 zao_w := prep_quietE zao_val

/-! ### signet/signetlaw3.JsonWrites -/
def zam_b0 : IQ :=
 (.loop [3, 10]
  (.seq
  (.seq
  (.reg 57 none [
   oP 54 (.mv (.t 10)),
   oP 55 (.mv (.t 3)),
   oP 56 (.len (.t 55)),
   oP 57 (.bin false .lss (.t 54) (.t 56))])
  (.cond (.t 57)
   .skip
   (.canon [] [3] (.exit 0))))
  (.seq
  (.block 1
   (.seq
   (.reg 65 none [
    oP 60 (.mv (.t 3)),
    oP 61 (.mv (.t 10)),
    oP 62 (.iaddr 6 (.t 60) (.t 61)),
    oP 63 (.faddr 0 (.t 62)),
    oP 64 (.load none (.t 63)),
    oP 65 (.bin false .eql (.t 64) (.v (.int .i64 3)))])
   (.cond (.t 65)
    (.reg 0 none [
     oP 66 (.mv (.t 3)),
     oP 67 (.mv (.t 10)),
     oP 68 (.iaddr 6 (.t 66) (.t 67)),
     oP 69 (.faddr 0 (.t 68)),
     ⟨none, .store 1 (.t 69) (.v (.int .i64 1)), none⟩])
    (.seq
    (.reg 75 none [
     oP 70 (.mv (.t 3)),
     oP 71 (.mv (.t 10)),
     oP 72 (.iaddr 6 (.t 70) (.t 71)),
     oP 73 (.faddr 0 (.t 72)),
     oP 74 (.load none (.t 73)),
     oP 75 (.bin false .eql (.t 74) (.v (.int .i64 1)))])
    (.cond (.t 75)
     (.reg 0 none [
      oP 76 (.mv (.t 3)),
      oP 77 (.mv (.t 10)),
      oP 78 (.iaddr 6 (.t 76) (.t 77)),
      oP 79 (.faddr 0 (.t 78)),
      ⟨none, .store 1 (.t 79) (.v (.int .i64 2)), none⟩])
     (.seq
     (.reg 85 none [
      oP 80 (.mv (.t 3)),
      oP 81 (.mv (.t 10)),
      oP 82 (.iaddr 6 (.t 80) (.t 81)),
      oP 83 (.faddr 0 (.t 82)),
      oP 84 (.load none (.t 83)),
      oP 85 (.bin false .eql (.t 84) (.v (.int .i64 5)))])
     (.cond (.t 85)
      (.reg 0 none [
       oP 86 (.mv (.t 3)),
       oP 87 (.mv (.t 10)),
       oP 88 (.mv (.t 3)),
       oP 89 (.mv (.t 10)),
       oP 90 (.iaddr 6 (.t 88) (.t 89)),
       oP 91 (.faddr 2 (.t 90)),
       oP 92 (.load none (.t 91)),
       oP 93 (.bin false .add (.v (.string ⟨#[113]⟩)) (.t 92)),
       oP 94 (.iaddr 6 (.t 86) (.t 87)),
       oP 95 (.faddr 2 (.t 94)),
       ⟨none, .store 1 (.t 95) (.t 93), none⟩])
      .skip)))))))
  (.reg 10 none [
   oP 58 (.mv (.t 10)),
   oP 59 (.bin false .add (.t 58) (.v (.int .i64 1))),
   oP 10 (.mv (.t 59))]))))
def zam_q : IQ :=
 (.seq
 (.reg 2 none [
  oP 2 (.mv (.v (.bool false)))])
 (.seq
 (.seq
 (.reg 18 none [
  oP 17 (.mv (.t 0)),
  oP 18 (.call 14 [(.t 17)])])
 (.cond (.t 18)
  (.seq
  (.reg 2 none [
   oP 2 (.mv (.v (.bool true)))])
  (.canon [] [2] .ret))
  .skip))
 (.seq
 (.reg 3 none [
  oP 19 (.mv (.t 0)),
  oP 20 (.call 23 [(.t 19)]),
  oP 3 (.mv (.t 20))])
 (.seq
 (.reg 4 none [
  oP 21 (.mv (.t 3)),
  oP 22 (.call 39 [(.t 21)]),
  oP 4 (.mv (.t 22))])
 (.seq
 (.reg 6 none [
  oP 24 (.mv (.t 3)),
  oP 25 (.call 40 [(.t 24)]),
  oP 23 (.mv (.t 25)),
  oP 26 (.extract (.t 23) 0),
  oP 27 (.extract (.t 23) 1),
  oP 5 (.mv (.t 26)),
  oP 6 (.mv (.t 27))])
 (.seq
 (.reg 8 none [
  oP 29 (.mv (.t 0)),
  oP 30 (.call 41 [(.t 29)]),
  oP 28 (.mv (.t 30)),
  oP 31 (.extract (.t 28) 0),
  oP 32 (.extract (.t 28) 1),
  oP 7 (.mv (.t 31)),
  oP 8 (.mv (.t 32))])
 (.seq
 (.reg 9 none [
  oP 33 (.mv (.t 3)),
  oP 34 (.mv (.t 0)),
  oP 35 (.call 27 [(.t 33), (.t 34)]),
  oP 9 (.mv (.t 35))])
 (.seq
 (.seq
 (.reg 53 none [
  oP 36 (.mv (.t 4)),
  oP 37 (.mv (.t 0)),
  oP 38 (.call 18 [(.t 37)]),
  oP 39 (.beq true (.t 36) (.t 38)),
  oP 40 (.mv (.t 39)),
  oG 41 (.mv (.t 5)) 40 false,
  oG 42 (.mv (.t 7)) 40 false,
  oG 43 (.bin false .neq (.t 41) (.t 42)) 40 false,
  oP 44 (.pick (.t 40) (.v (.bool true)) (.t 43)),
  oP 45 (.mv (.t 44)),
  oG 46 (.mv (.t 6)) 45 false,
  oG 47 (.mv (.t 8)) 45 false,
  oG 48 (.bin false .neq (.t 46) (.t 47)) 45 false,
  oP 49 (.pick (.t 45) (.v (.bool true)) (.t 48)),
  oP 50 (.mv (.t 49)),
  oG 51 (.mv (.t 9)) 50 false,
  oG 52 (.un .not (.t 51)) 50 false,
  oP 53 (.pick (.t 50) (.v (.bool true)) (.t 52))])
 (.cond (.t 53)
  (.seq
  (.reg 2 none [
   oP 2 (.mv (.v (.bool false)))])
  (.canon [] [2] .ret))
  .skip))
 (.seq
 (.seq
 (.reg 10 none [
  oP 10 (.mv (.v (.int .i64 0)))])
 (.block 0
  (.canon [] [3, 10] (.sub 0 zam_b0))))
 (.seq
 (.reg 11 none [
  oP 96 (.mv (.t 3)),
  oP 97 (.call 32 [(.t 96)]),
  oP 11 (.mv (.t 97))])
 (.seq
 (.reg 13 none [
  oP 99 (.mv (.t 3)),
  oP 100 (.call 40 [(.t 99)]),
  oP 98 (.mv (.t 100)),
  oP 101 (.extract (.t 98) 0),
  oP 102 (.extract (.t 98) 1),
  oP 12 (.mv (.t 101)),
  oP 13 (.mv (.t 102))])
 (.seq
 (.reg 15 none [
  oP 104 (.mv (.t 11)),
  oP 105 (.call 41 [(.t 104)]),
  oP 103 (.mv (.t 105)),
  oP 106 (.extract (.t 103) 0),
  oP 107 (.extract (.t 103) 1),
  oP 14 (.mv (.t 106)),
  oP 15 (.mv (.t 107))])
 (.seq
 (.reg 16 none [
  oP 108 (.mv (.t 3)),
  oP 109 (.call 39 [(.t 108)]),
  oP 16 (.mv (.t 109))])
 (.seq
 (.reg 9 none [
  oP 110 (.mv (.t 3)),
  oP 111 (.mv (.t 11)),
  oP 112 (.call 27 [(.t 110), (.t 111)]),
  oP 9 (.mv (.t 112))])
 (.seq
 (.seq
 (.reg 135 none [
  oP 113 (.mv (.t 16)),
  oP 114 (.mv (.t 11)),
  oP 115 (.call 18 [(.t 114)]),
  oP 116 (.beq true (.t 113) (.t 115)),
  oP 117 (.mv (.t 116)),
  oG 118 (.mv (.t 12)) 117 false,
  oG 119 (.mv (.t 14)) 117 false,
  oG 120 (.bin false .neq (.t 118) (.t 119)) 117 false,
  oP 121 (.pick (.t 117) (.v (.bool true)) (.t 120)),
  oP 122 (.mv (.t 121)),
  oG 123 (.mv (.t 13)) 122 false,
  oG 124 (.mv (.t 15)) 122 false,
  oG 125 (.bin false .neq (.t 123) (.t 124)) 122 false,
  oP 126 (.pick (.t 122) (.v (.bool true)) (.t 125)),
  oP 127 (.mv (.t 126)),
  oG 128 (.mv (.t 9)) 127 false,
  oG 129 (.un .not (.t 128)) 127 false,
  oP 130 (.pick (.t 127) (.v (.bool true)) (.t 129)),
  oP 131 (.mv (.t 130)),
  oG 132 (.mv (.t 3)) 131 false,
  oG 133 (.len (.t 132)) 131 false,
  oG 134 (.bin false .eql (.t 133) (.v (.int .i64 0))) 131 false,
  oP 135 (.pick (.t 131) (.v (.bool true)) (.t 134))])
 (.cond (.t 135)
  (.seq
  (.reg 2 none [
   oP 136 (.mv (.t 16)),
   oP 137 (.mv (.t 11)),
   oP 138 (.call 18 [(.t 137)]),
   oP 139 (.beq false (.t 136) (.t 138)),
   oP 140 (.mv (.t 139)),
   oG 141 (.mv (.t 12)) 140 true,
   oG 142 (.mv (.t 14)) 140 true,
   oG 143 (.bin false .eql (.t 141) (.t 142)) 140 true,
   oP 144 (.pick (.t 140) (.t 143) (.v (.bool false))),
   oP 145 (.mv (.t 144)),
   oG 146 (.mv (.t 13)) 145 true,
   oG 147 (.mv (.t 15)) 145 true,
   oG 148 (.bin false .eql (.t 146) (.t 147)) 145 true,
   oP 149 (.pick (.t 145) (.t 148) (.v (.bool false))),
   oP 150 (.mv (.t 149)),
   oG 151 (.mv (.t 9)) 150 true,
   oP 152 (.pick (.t 150) (.t 151) (.v (.bool false))),
   oP 2 (.mv (.t 152))])
  (.canon [] [2] .ret))
  .skip))
 (.seq
 (.reg 0 none [
  oP 153 (.mv (.t 3)),
  oP 154 (.iaddr 6 (.t 153) (.v (.int .i64 0))),
  oP 155 (.faddr 0 (.t 154)),
  ⟨none, .store 1 (.t 155) (.v (.int .i64 77)), none⟩])
 (.seq
 (.reg 2 none [
  oP 156 (.mv (.t 3)),
  oP 157 (.call 39 [(.t 156)]),
  oP 158 (.un .not (.t 157)),
  oP 2 (.mv (.t 158))])
 (.canon [] [2] .ret))))))))))))))))))
theorem zam_chk : chk Tryd.prog 7 [] = some (zam_q.erase, [.tmp 2], 159) := by kernel_rfl
def zam_p0_step (i : Int) (k__n : Nat) (h2 : List Eng.Node) : Option ((Int × (List Eng.Node)) ⊕ ((List Eng.Node))) :=
 bif decide (i < ((k__n : Nat) : Int)) then (
  gd (0 ≤ i ∧ i < ((k__n : Nat) : Int)) <|
  gd (((0) + Int.toNat i) < h2.length) <|
  gd (((0) + Int.toNat i) < h2.length) <|
  bif decide (((h2.getD ((0) + Int.toNat i) (ET.dft .node)).kind) = (3 : Int)) then (
   gd (0 ≤ i ∧ i < ((k__n : Nat) : Int)) <|
   gd (((0) + Int.toNat i) < h2.length) <|
   gd (((0) + Int.toNat i) < h2.length) <|
   gd (InI64 (i + (1 : Int))) <|
   some (.inl ((i + (1 : Int)), (h2.set ((0) + Int.toNat i) (⟨(1 : Int), (h2.getD ((0) + Int.toNat i) (ET.dft .node)).key, (h2.getD ((0) + Int.toNat i) (ET.dft .node)).text, (h2.getD ((0) + Int.toNat i) (ET.dft .node)).whole, (h2.getD ((0) + Int.toNat i) (ET.dft .node)).int, (h2.getD ((0) + Int.toNat i) (ET.dft .node)).kids⟩ : Eng.Node)))))
  else (
   gd (0 ≤ i ∧ i < ((k__n : Nat) : Int)) <|
   gd (((0) + Int.toNat i) < h2.length) <|
   gd (((0) + Int.toNat i) < h2.length) <|
   bif decide (((h2.getD ((0) + Int.toNat i) (ET.dft .node)).kind) = (1 : Int)) then (
    gd (0 ≤ i ∧ i < ((k__n : Nat) : Int)) <|
    gd (((0) + Int.toNat i) < h2.length) <|
    gd (((0) + Int.toNat i) < h2.length) <|
    gd (InI64 (i + (1 : Int))) <|
    some (.inl ((i + (1 : Int)), (h2.set ((0) + Int.toNat i) (⟨(2 : Int), (h2.getD ((0) + Int.toNat i) (ET.dft .node)).key, (h2.getD ((0) + Int.toNat i) (ET.dft .node)).text, (h2.getD ((0) + Int.toNat i) (ET.dft .node)).whole, (h2.getD ((0) + Int.toNat i) (ET.dft .node)).int, (h2.getD ((0) + Int.toNat i) (ET.dft .node)).kids⟩ : Eng.Node)))))
   else (
    gd (0 ≤ i ∧ i < ((k__n : Nat) : Int)) <|
    gd (((0) + Int.toNat i) < h2.length) <|
    gd (((0) + Int.toNat i) < h2.length) <|
    bif decide (((h2.getD ((0) + Int.toNat i) (ET.dft .node)).kind) = (5 : Int)) then (
     gd (0 ≤ i ∧ i < ((k__n : Nat) : Int)) <|
     gd (((0) + Int.toNat i) < h2.length) <|
     gd (((0) + Int.toNat i) < h2.length) <|
     gd ((⟨#[113]⟩ : ByteArray).size + ((h2.getD ((0) + Int.toNat i) (ET.dft .node)).text).size ≤ 9223372036854775807) <|
     gd (0 ≤ i ∧ i < ((k__n : Nat) : Int)) <|
     gd (((0) + Int.toNat i) < h2.length) <|
     gd (((0) + Int.toNat i) < h2.length) <|
     gd (InI64 (i + (1 : Int))) <|
     some (.inl ((i + (1 : Int)), (h2.set ((0) + Int.toNat i) (⟨(h2.getD ((0) + Int.toNat i) (ET.dft .node)).kind, (h2.getD ((0) + Int.toNat i) (ET.dft .node)).key, ((⟨#[113]⟩ : ByteArray) ++ ((h2.getD ((0) + Int.toNat i) (ET.dft .node)).text)), (h2.getD ((0) + Int.toNat i) (ET.dft .node)).whole, (h2.getD ((0) + Int.toNat i) (ET.dft .node)).int, (h2.getD ((0) + Int.toNat i) (ET.dft .node)).kids⟩ : Eng.Node)))))
    else (
     gd (InI64 (i + (1 : Int))) <|
     some (.inl ((i + (1 : Int)), h2))))))
 else (
  some (.inr h2))
def zam_p0 (i : Int) (k__n : Nat) (h2 : List Eng.Node) : Option ((List Eng.Node)) :=
 whileO (fun x : (Int × (List Eng.Node)) => zam_p0_step x.1 k__n x.2) (i, h2)
def zam_s (v : (List Eng.Node)) : Option Bool :=
 (zav_s v).bind fun r15 =>
 bif r15 then (
  some true)
 else (
  (zan_s v).bind fun r16 =>
  gd ((0) + r16.2 ≤ r16.1.length) <|
  (zai_s ((r16.1.drop (0)).take r16.2)).bind fun r17 =>
  gd ((0) + r16.2 ≤ r16.1.length) <|
  (zah_s ((r16.1.drop (0)).take r16.2)).bind fun r18 =>
  (zax_s v).bind fun r19 =>
  (zao_s r16.1 v (0) r16.2).bind fun r20 =>
  (zba_s v).bind fun r21 =>
  bif ((((!(r17 == r21)) || (!decide (r18.1 = r19.1))) || (!decide (r18.2 = r19.2))) || (!r20)) then (
   some false)
  else (
   (zam_p0 (0 : Int) r16.2 r16.1).bind fun o22 =>
   gd ((0) + r16.2 ≤ o22.length) <|
   (zbb_s ((o22.drop (0)).take r16.2)).bind fun r23 =>
   gd ((0) + r16.2 ≤ o22.length) <|
   (zah_s ((o22.drop (0)).take r16.2)).bind fun r24 =>
   (zax_s r23).bind fun r25 =>
   gd ((0) + r16.2 ≤ o22.length) <|
   (zai_s ((o22.drop (0)).take r16.2)).bind fun r26 =>
   (zao_s o22 r23 (0) r16.2).bind fun r27 =>
   (zba_s r23).bind fun r28 =>
   bif (((((!(r26 == r28)) || (!decide (r24.1 = r25.1))) || (!decide (r24.2 = r25.2))) || (!r27)) || (decide (((r16.2 : Nat) : Int) = (0 : Int)))) then (
    (zba_s r23).bind fun r29 =>
    some ((((r26 == r29) && (decide (r24.1 = r25.1))) && (decide (r24.2 = r25.2))) && r27))
   else (
    gd (0 ≤ (0 : Int) ∧ (0 : Int) < ((r16.2 : Nat) : Int)) <|
    gd (((0) + Int.toNat (0 : Int)) < o22.length) <|
    gd (((0) + Int.toNat (0 : Int)) < o22.length) <|
    gd ((0) + r16.2 ≤ (o22.set ((0) + Int.toNat (0 : Int)) (⟨(77 : Int), (o22.getD ((0) + Int.toNat (0 : Int)) (ET.dft .node)).key, (o22.getD ((0) + Int.toNat (0 : Int)) (ET.dft .node)).text, (o22.getD ((0) + Int.toNat (0 : Int)) (ET.dft .node)).whole, (o22.getD ((0) + Int.toNat (0 : Int)) (ET.dft .node)).int, (o22.getD ((0) + Int.toNat (0 : Int)) (ET.dft .node)).kids⟩ : Eng.Node)).length) <|
    (zai_s (((o22.set ((0) + Int.toNat (0 : Int)) (⟨(77 : Int), (o22.getD ((0) + Int.toNat (0 : Int)) (ET.dft .node)).key, (o22.getD ((0) + Int.toNat (0 : Int)) (ET.dft .node)).text, (o22.getD ((0) + Int.toNat (0 : Int)) (ET.dft .node)).whole, (o22.getD ((0) + Int.toNat (0 : Int)) (ET.dft .node)).int, (o22.getD ((0) + Int.toNat (0 : Int)) (ET.dft .node)).kids⟩ : Eng.Node)).drop (0)).take r16.2)).bind fun r30 =>
    some (!r30))))
def zam_G : Nat → Option CQ := tblQ [(14, zav_w), (23, zan_w), (39, zai_w), (40, zah_w), (41, zax_w), (27, zao_w), (18, zba_w), (32, zbb_w)]
theorem zam_Gok : ∀ f C, zam_G f = some C → ValidQ Tryd.prog f C := tblQ_valid ⟨zav_ok, zan_ok, zai_ok, zah_ok, zax_ok, zao_ok, zba_ok, zbb_ok, trivial⟩
def zam_d0 := (dQS (dCons (dSl 3 (dVC (dCO (dO 1)))) (dCons (dSl 10 (dVC (dCO (dI .i64)))) dNil)) (dCons (dView .node) (dCons (dPart0 2 6) (dCons (dRow .node 36) dNil))))
def zam_l0 : SubQ := fun S R kn kx kr => (Dec.d zam_d0 S).bind fun x => (zam_p0 x.1.2.1 x.2.2.1 x.2.2.2.1).bind fun r => kx 0 ⟨[(3, [], .c (.o (.own 1)))], [], [.view .node x.2.1, .part 2 (0) x.2.2.1 6, .row .node 36 r]⟩
def zam_L : Nat → SubQ := tblL [(0, zam_l0)]
theorem zam_p0_eq (i : Int) (v : List Eng.Node) (k__n : Nat) (h2 : List Eng.Node) (R : Type) (kn : QS → Option R) (kx : Nat → QS → Option R) (kr : QS → Option R) :
  interpQ zam_L zam_G 1 17 159 zam_b0 ⟨[(3, [], .c (.o (.own 1))), (10, [], .c (.o (.val (.int .i64 i))))], [], [.view .node v, .part 2 (0) k__n 6, .row .node 36 h2]⟩ kn kx kr = (zam_p0 i k__n h2).bind fun r => kx 0 ⟨[(3, [], .c (.o (.own 1)))], [], [.view .node v, .part 2 (0) k__n 6, .row .node 36 r]⟩ := by
 refine loop_piece (step := fun x => zam_p0_step x.1 k__n x.2) (enc := fun x => ⟨[(3, [], .c (.o (.own 1))), (10, [], .c (.o (.val (.int .i64 x.1))))], [], [.view .node v, .part 2 (0) k__n 6, .row .node 36 x.2]⟩) (ko := fun r => kx 0 ⟨[(3, [], .c (.o (.own 1)))], [], [.view .node v, .part 2 (0) k__n 6, .row .node 36 r]⟩) ?_ ?_ (i, h2)
 ·intro x; kernel_rfl
 ·intro x ki; simp only [zam_p0_step, -eq_self, bind_cond, bind_gd, Option.bind_assoc, obS, Sum.elim_inl, Sum.elim_inr, bind_elim]; kernel_rfl
theorem zam_sub0 : SubOK zam_L zam_G 1 17 159 0 zam_b0 := sub_ok' zam_d0 (fun x R kn kx kr => (zam_p0 x.1.2.1 x.2.2.1 x.2.2.2.1).bind fun r => kx 0 ⟨[(3, [], .c (.o (.own 1)))], [], [.view .node x.2.1, .part 2 (0) x.2.2.1 6, .row .node 36 r]⟩) (by kernel_rfl) fun x R kn kx kr => zam_p0_eq x.1.2.1 x.2.1 x.2.2.1 x.2.2.2.1 R kn kx kr
theorem zam_subs : subsOK zam_L zam_G 1 17 159 zam_q := subs_of (show AllSub zam_L zam_G 1 17 159 [(0, zam_b0)] from ⟨zam_sub0, trivial⟩)
theorem zam_eq (v : (List Eng.Node)) (R : Type) (k : SV → List SB → Option R) :
  fnQ zam_L zam_G 17 159 zam_q [.tmp 2] [.c (.o (.own 0))] [.view .node v] k = (zam_s v).bind fun r => k (.c (.o (.val (.bool r)))) [.view .node v] := by
 simp only [zam_s, -eq_self, bind_cond, bind_gd, Option.bind_assoc, obS, Sum.elim_inl, Sum.elim_inr, bind_elim]
 kernel_rfl
def zam_da := (dCons (dVC (dCO (dO 0))) dNil)
def zam_db := (dCons (dView .node) dNil)
def zam_c : CS := fun args hp R k => (Dec.d zam_da args).bind fun x => (Dec.d zam_db hp).bind fun y => (zam_s y.1).bind fun r => k (.c (.o (.val (.bool r)))) [.view .node y.1]
theorem zam_val : ValidS Tryd.prog 7 zam_c :=
 val_ok zam_chk 17 zam_Gok zam_da zam_db 1 (fun x y R k => (zam_s y.1).bind fun r => k (.c (.o (.val (.bool r)))) [.view .node y.1]) (by kernel_rfl)
  (fun x y R k => by simp only [Option.bind_assoc, obS]) (fun x => Nat.le_of_ble_eq_true rfl) (fun y => rfl) zam_subs fun x y => zam_eq y.1 _ _
end
end Go.Proofs.YtdcoiccdbgcpaaaDoor
