/-
 Functions as the engine reads them (printed by gen.py).
-/
import Derived.Test.YtekkjbomadoplaaDoorEngO
import Derived.Test.YtekkjbomadoplaaDoorProg
import Derived.Test.YtekkjbomadoplaaDoorUtf8
import Derived.Test.YtekkjbomadoplaaDoorGC
import Derived.Test.YtekkjbomadoplaaDoorJR
namespace Go.Proofs.YtekkjbomadoplaaDoor
open Go.Eng
set_option linter.unusedVariables false
set_option linter.unusedSimpArgs false
set_option maxRecDepth 100000
/-! ### signet/json.plain -/
noncomputable section
def zak_q : IQ :=
 (.seq
 (.reg 2 none [
  oP 1 (.box 36 6 (.t 0)),
  oP 2 (.mv (.v (.bool false)))])
 (.seq
 (.block 0
  (.seq
  (.reg 5 none [
   oP 6 (.faddr 0 (.t 1)),
   oP 7 (.load none (.t 6)),
   oP 8 (.bin false .lss (.t 7) (.v (.int .i64 1))),
   oP 9 (.mv (.t 8)),
   oG 10 (.faddr 0 (.t 1)) 9 false,
   oG 11 (.load none (.t 10)) 9 false,
   oG 12 (.bin false .gtr (.t 11) (.v (.int .i64 7))) 9 false,
   oP 13 (.pick (.t 9) (.v (.bool true)) (.t 12)),
   oP 14 (.mv (.t 13)),
   oG 15 (.faddr 5 (.t 1)) 14 false,
   oG 16 (.load none (.t 15)) 14 false,
   oG 17 (.bin false .lss (.t 16) (.v (.int .i64 0))) 14 false,
   oP 18 (.pick (.t 14) (.v (.bool true)) (.t 17)),
   oP 19 (.mv (.t 18)),
   oG 20 (.faddr 5 (.t 1)) 19 false,
   oG 21 (.load none (.t 20)) 19 false,
   oG 22 (.bin false .gtr (.t 21) (.v (.int .i64 0))) 19 false,
   oG 23 (.mv (.t 22)) 19 false,
   oG 24 (.faddr 0 (.t 1)) 23 true,
   oG 25 (.load none (.t 24)) 23 true,
   oG 26 (.bin false .neq (.t 25) (.v (.int .i64 6))) 23 true,
   oG 27 (.pick (.t 23) (.t 26) (.v (.bool false))) 19 false,
   oG 28 (.mv (.t 27)) 19 false,
   oG 29 (.faddr 0 (.t 1)) 28 true,
   oG 30 (.load none (.t 29)) 28 true,
   oG 31 (.bin false .neq (.t 30) (.v (.int .i64 7))) 28 true,
   oG 32 (.pick (.t 28) (.t 31) (.v (.bool false))) 19 false,
   oP 33 (.pick (.t 19) (.v (.bool true)) (.t 32)),
   oP 5 (.mv (.t 33))])
  (.cond (.t 5)
   (.seq
   (.reg 2 none [
    oP 2 (.mv (.v (.bool false)))])
   (.canon [] [2] .ret))
   (.seq
   (.reg 34 none [
    oP 35 (.faddr 0 (.t 1)),
    oP 36 (.load none (.t 35)),
    oP 37 (.bin false .eql (.t 36) (.v (.int .i64 4))),
    oP 34 (.mv (.t 37))])
   (.cond (.t 34)
    (.seq
    (.reg 4 none [
     oP 39 (.faddr 2 (.t 1)),
     oP 40 (.load none (.t 39)),
     oP 41 (.call 69 [(.t 40)]),
     oP 38 (.mv (.t 41)),
     oP 42 (.extract (.t 38) 0),
     oP 43 (.extract (.t 38) 1),
     oP 3 (.mv (.t 42)),
     oP 4 (.mv (.t 43))])
    (.seq
    (.reg 2 none [
     oP 44 (.faddr 2 (.t 1)),
     oP 45 (.load none (.t 44)),
     oP 46 (.call 70 [(.t 45)]),
     oP 47 (.mv (.t 46)),
     oG 48 (.faddr 3 (.t 1)) 47 true,
     oG 49 (.load none (.t 48)) 47 true,
     oG 50 (.mv (.t 4)) 47 true,
     oG 51 (.beq false (.t 49) (.t 50)) 47 true,
     oP 52 (.pick (.t 47) (.t 51) (.v (.bool false))),
     oP 53 (.mv (.t 52)),
     oG 54 (.faddr 4 (.t 1)) 53 true,
     oG 55 (.load none (.t 54)) 53 true,
     oG 56 (.mv (.t 3)) 53 true,
     oG 57 (.bin false .eql (.t 55) (.t 56)) 53 true,
     oP 58 (.pick (.t 53) (.t 57) (.v (.bool false))),
     oP 2 (.mv (.t 58))])
    (.canon [] [2] .ret)))
    (.seq
    (.reg 59 none [
     oP 60 (.faddr 3 (.t 1)),
     oP 61 (.load none (.t 60)),
     oP 62 (.mv (.t 61)),
     oG 63 (.faddr 4 (.t 1)) 62 false,
     oG 64 (.load none (.t 63)) 62 false,
     oG 65 (.bin false .neq (.t 64) (.v (.int .i64 0))) 62 false,
     oP 66 (.pick (.t 62) (.v (.bool true)) (.t 65)),
     oP 59 (.mv (.t 66))])
    (.cond (.t 59)
     (.seq
     (.reg 2 none [
      oP 2 (.mv (.v (.bool false)))])
     (.canon [] [2] .ret))
     (.seq
     (.reg 67 none [
      oP 68 (.faddr 0 (.t 1)),
      oP 69 (.load none (.t 68)),
      oP 70 (.bin false .eql (.t 69) (.v (.int .i64 5))),
      oP 67 (.mv (.t 70))])
     (.cond (.t 67)
      (.seq
      (.reg 2 none [
       oP 71 (.faddr 2 (.t 1)),
       oP 72 (.load none (.t 71)),
       oP 73 (.call 31 [(.t 72)]),
       oP 2 (.mv (.t 73))])
      (.canon [] [2] .ret))
      .skip)))))))))
 (.seq
 (.reg 2 none [
  oP 74 (.faddr 2 (.t 1)),
  oP 75 (.load none (.t 74)),
  oP 76 (.bin false .eql (.t 75) (.v (.string ⟨#[]⟩))),
  oP 2 (.mv (.t 76))])
 (.canon [] [2] .ret))))
theorem zak_chk : chk Tryd.prog 51 [] = some (zak_q.erase, [.tmp 2], 77) := by kernel_rfl
def zak_s (n : Eng.Node) : Option Bool :=
 bif ((((decide (n.kind < (1 : Int))) || (decide ((7 : Int) < n.kind))) || (decide (n.kids < (0 : Int)))) || (((decide ((0 : Int) < n.kids)) && (!decide (n.kind = (6 : Int)))) && (!decide (n.kind = (7 : Int))))) then (
  some false)
 else (
  bif decide (n.kind = (4 : Int)) then (
   (zab_s n.text).bind fun r1 =>
   (zaa_s n.text).bind fun r2 =>
   some ((r2 && (n.whole == r1.2)) && (decide (n.int = r1.1))))
  else (
   bif (n.whole || (!decide (n.int = (0 : Int)))) then (
    some false)
   else (
    bif decide (n.kind = (5 : Int)) then (
     (utf8_ValidString_s n.text).bind fun r3 =>
     some r3)
    else (
     some (decide (n.text = (⟨#[]⟩ : ByteArray)))))))
def zak_G : Nat → Option CQ := tblQ [(69, zab_w), (70, zaa_w), (31, utf8_ValidString_w)]
theorem zak_Gok : ∀ f C, zak_G f = some C → ValidQ Tryd.prog f C := tblQ_valid ⟨zab_ok, zaa_ok, utf8_ValidString_ok, trivial⟩
def zak_L : Nat → SubQ := tblL []
theorem zak_subs : subsOK zak_L zak_G 0 5 77 zak_q := subs_of (show AllSub zak_L zak_G 0 5 77 [] from trivial)
theorem zak_eq (n : Eng.Node) (R : Type) (k : SV → List SB → Option R) :
  fnQ zak_L zak_G 5 77 zak_q [.tmp 2] [.c (.agg [.val (.int .i64 n.kind), .val (.string n.key), .val (.string n.text), .val (.bool n.whole), .val (.int .i64 n.int), .val (.int .i64 n.kids)])] [] k = (zak_s n).bind fun r => k (.c (.o (.val (.bool r)))) [] := by
 simp only [zak_s, -eq_self, bind_cond, bind_gd, Option.bind_assoc, obS, Sum.elim_inl, Sum.elim_inr, bind_elim]
 kernel_rfl
def zak_da := (dCons (dVC (dCA (dCons (dI .i64) (dCons dS (dCons dS (dCons dB (dCons (dI .i64) (dCons (dI .i64) dNil)))))))) dNil)
def zak_db := (dNil : Dec Unit (List SB))
def zak_c : CS := fun args hp R k => (Dec.d zak_da args).bind fun x => (Dec.d zak_db hp).bind fun y => (zak_s (⟨x.1.1, x.1.2.1, x.1.2.2.1, x.1.2.2.2.1, x.1.2.2.2.2.1, x.1.2.2.2.2.2.1⟩ : Eng.Node)).bind fun r => k (.c (.o (.val (.bool r)))) []
theorem zak_val : ValidS Tryd.prog 51 zak_c :=
 val_ok zak_chk 5 zak_Gok zak_da zak_db 0 (fun x y R k => (zak_s (⟨x.1.1, x.1.2.1, x.1.2.2.1, x.1.2.2.2.1, x.1.2.2.2.2.1, x.1.2.2.2.2.2.1⟩ : Eng.Node)).bind fun r => k (.c (.o (.val (.bool r)))) []) (by kernel_rfl)
  (fun x y R k => by simp only [Option.bind_assoc, obS]) (fun x => Nat.le_of_ble_eq_true rfl) (fun y => rfl) zak_subs fun x y => zak_eq (⟨x.1.1, x.1.2.1, x.1.2.2.1, x.1.2.2.2.1, x.1.2.2.2.2.1, x.1.2.2.2.2.2.1⟩ : Eng.Node) _ _
def zak_w : CQ := liftV [] zak_c
theorem zak_ok : ValidQ Tryd.prog 51 zak_w := liftV_valid zak_val

/-! ### signet/json.Shaped -/
def zaj_b3 : IQ :=
 (.loop [3, 10, 11, 12]
  (.seq
  (.seq
  (.reg 110 none [
   oP 98 (.mv (.t 3)),
   oP 99 (.len (.t 98)),
   oP 100 (.bin false .gtr (.t 99) (.v (.int .i64 0))),
   oP 101 (.mv (.t 100)),
   oG 102 (.mv (.t 3)) 101 true,
   oG 103 (.mv (.t 3)) 101 true,
   oG 104 (.len (.t 103)) 101 true,
   oG 105 (.bin false .sub (.t 104) (.v (.int .i64 1))) 101 true,
   oG 106 (.iaddr 2 (.t 102) (.t 105)) 101 true,
   oG 107 (.faddr 0 (.t 106)) 101 true,
   oG 108 (.load none (.t 107)) 101 true,
   oG 109 (.bin false .eql (.t 108) (.v (.int .i64 0))) 101 true,
   oP 110 (.pick (.t 101) (.t 109) (.v (.bool false)))])
  (.cond (.t 110)
   .skip
   (.canon [] [3, 10, 11, 12] (.exit 3))))
  (.block 4
   (.reg 3 none [
    oP 111 (.mv (.t 3)),
    oP 112 (.mv (.t 3)),
    oP 113 (.len (.t 112)),
    oP 114 (.bin false .sub (.t 113) (.v (.int .i64 1))),
    oP 115 (.sub (some 2) (.t 111) none (some (.t 114))),
    oP 3 (.mv (.t 115))]))))
def zaj_b2 : IQ :=
 (.join [] [3, 10, 11, 12]
 (.block 3
  (.canon [] [3, 10, 11, 12] (.sub 3 zaj_b3))))
def zaj_b1 : IQ :=
 (.join [] [3, 10, 11, 12]
 (.seq
 (.seq
 (.reg 82 none [
  oP 75 (.faddr 0 (.t 5)),
  oP 76 (.load none (.t 75)),
  oP 77 (.bin false .eql (.t 76) (.v (.int .i64 6))),
  oP 78 (.mv (.t 77)),
  oG 79 (.faddr 0 (.t 5)) 78 false,
  oG 80 (.load none (.t 79)) 78 false,
  oG 81 (.bin false .eql (.t 80) (.v (.int .i64 7))) 78 false,
  oP 82 (.pick (.t 78) (.v (.bool true)) (.t 81))])
 (.cond (.t 82)
  (.seq
  (.seq
  (.reg 85 none [
   oP 83 (.mv (.t 3)),
   oP 84 (.len (.t 83)),
   oP 85 (.bin false .gtr (.t 84) (.v (.int .i64 32)))])
  (.cond (.t 85)
   (.seq
   (.reg 2 none [
    oP 2 (.mv (.v (.bool false)))])
   (.canon [] [2] .ret))
   .skip))
  (.seq
  (.reg 0 none [
   oP 86 (.faddr 5 (.t 5)),
   oP 87 (.load none (.t 86)),
   oP 88 (.build [.int .i64 0, .map none] [(0, 1, (.t 87))]),
   oP 7 (.alloc 92 [.int .i64 0, .map none]),
   ⟨none, .store 2 (.t 7) (.t 88), none⟩])
  (.seq
  (.seq
  (.reg 91 none [
   oP 89 (.faddr 0 (.t 5)),
   oP 90 (.load none (.t 89)),
   oP 91 (.bin false .eql (.t 90) (.v (.int .i64 7)))])
  (.cond (.t 91)
   (.reg 0 none [
    oP 92 (.ext .mkmap []),
    oP 93 (.faddr 1 (.t 7)),
    ⟨none, .store 1 (.t 93) (.t 92), none⟩])
   .skip))
  (.reg 3 none [
   oP 94 (.mv (.t 3)),
   oP 95 (.load (some 2) (.t 7)),
   oP 96 (.bslice 92 2 1 [.int .i64 0, .map none] [(0, (.t 95))]),
   oP 97 (.append 92 2 16 [.int .i64 0, .map none] (.t 94) (.t 96)),
   oP 3 (.mv (.t 97))]))))
  .skip))
 (.canon [] [3, 10, 11, 12] (.sub 2 zaj_b2))))
def zaj_b0 : IQ :=
 (.loop [3, 10, 11, 12]
  (.seq
  (.reg 13 none [
   oP 13 (.bin false .lss (.t 12) (.t 11))])
  (.seq
  (.cond (.t 13)
   .skip
   (.canon [] [3] (.exit 0)))
  (.seq
  (.block 1
   (.seq
   (.reg 0 none [
    oP 14 (.iaddr 6 (.t 10) (.t 12)),
    oP 15 (.load (some 6) (.t 14)),
    oP 5 (.alloc 36 [.int .i64 0, .string ⟨#[]⟩, .string ⟨#[]⟩, .bool false, .int .i64 0, .int .i64 0]),
    ⟨none, .store 6 (.t 5) (.t 15), none⟩])
   (.seq
   (.seq
   (.reg 23 none [
    oP 16 (.mv (.t 3)),
    oP 17 (.len (.t 16)),
    oP 18 (.bin false .eql (.t 17) (.v (.int .i64 0))),
    oP 19 (.mv (.t 18)),
    oG 20 (.load (some 6) (.t 5)) 19 false,
    oG 21 (.call 51 [(.t 20)]) 19 false,
    oG 22 (.un .not (.t 21)) 19 false,
    oP 23 (.pick (.t 19) (.v (.bool true)) (.t 22))])
   (.cond (.t 23)
    (.seq
    (.reg 2 none [
     oP 2 (.mv (.v (.bool false)))])
    (.canon [] [2] .ret))
    .skip))
   (.seq
   (.reg 6 none [
    oP 24 (.mv (.t 3)),
    oP 25 (.mv (.t 3)),
    oP 26 (.len (.t 25)),
    oP 27 (.bin false .sub (.t 26) (.v (.int .i64 1))),
    oP 28 (.iaddr 2 (.t 24) (.t 27)),
    oP 6 (.mv (.t 28))])
   (.seq
   (.reg 0 none [
    oP 29 (.mv (.t 6)),
    oP 30 (.ext .nilck [(.t 29)]),
    oP 31 (.faddr 0 (.t 30)),
    oP 32 (.load none (.t 31)),
    oP 33 (.bin false .sub (.t 32) (.v (.int .i64 1))),
    oP 34 (.ext .nilck [(.t 29)]),
    oP 35 (.faddr 0 (.t 34)),
    ⟨none, .store 1 (.t 35) (.t 33), none⟩])
   (.seq
   (.block 2
    (.seq
    (.reg 36 (some [0, 1, 2, 3, 4, 5, 6, 7, 8, 9, 10, 11, 12, 13, 14, 15, 16, 17, 18, 19, 20, 21, 22, 23, 24, 25, 26]) [
     oP 37 (.mv (.t 6)),
     oP 38 (.ext .nilck [(.t 37)]),
     oP 39 (.faddr 1 (.t 38)),
     oP 40 (.load none (.t 39)),
     oP 41 (.ext (.mnil false) [(.t 40)]),
     oP 42 (.mv (.t 41)),
     oG 43 (.faddr 1 (.t 5)) 42 true,
     oG 44 (.load none (.t 43)) 42 true,
     oG 45 (.bin false .neq (.t 44) (.v (.string ⟨#[]⟩))) 42 true,
     oP 46 (.pick (.t 42) (.t 45) (.v (.bool false))),
     oP 47 (.mv (.t 46)),
     oG 48 (.mv (.t 6)) 47 false,
     oG 49 (.ext .nilck [(.t 48)]) 47 false,
     oG 50 (.faddr 1 (.t 49)) 47 false,
     oG 51 (.load none (.t 50)) 47 false,
     oG 52 (.faddr 1 (.t 5)) 47 false,
     oG 53 (.load none (.t 52)) 47 false,
     oG 54 (.ext .mget [(.t 51), (.t 53)]) 47 false,
     oG 55 (.bin false .gtr (.t 54) (.v (.int .i64 0))) 47 false,
     oP 56 (.pick (.t 47) (.v (.bool true)) (.t 55)),
     oP 57 (.mv (.t 56)),
     oG 58 (.faddr 1 (.t 5)) 57 false,
     oG 59 (.load none (.t 58)) 57 false,
     oG 60 (.call 31 [(.t 59)]) 57 false,
     oG 61 (.un .not (.t 60)) 57 false,
     oP 62 (.pick (.t 57) (.v (.bool true)) (.t 61)),
     oP 36 (.mv (.t 62))])
    (.cond (.t 36)
     (.seq
     (.reg 2 none [
      oP 2 (.mv (.v (.bool false)))])
     (.canon [] [2] .ret))
     (.seq
     (.reg 63 none [
      oP 64 (.mv (.t 6)),
      oP 65 (.ext .nilck [(.t 64)]),
      oP 66 (.faddr 1 (.t 65)),
      oP 67 (.load none (.t 66)),
      oP 68 (.ext (.mnil true) [(.t 67)]),
      oP 63 (.mv (.t 68))])
     (.cond (.t 63)
      (.reg 0 (some [0, 1, 2, 3, 4, 5, 6]) [
       oP 69 (.mv (.t 6)),
       oP 70 (.ext .nilck [(.t 69)]),
       oP 71 (.faddr 1 (.t 70)),
       oP 72 (.load none (.t 71)),
       oP 73 (.faddr 1 (.t 5)),
       oP 74 (.load none (.t 73)),
       ⟨none, .ext .mput [(.t 72), (.t 74), (.v (.int .i64 1))], none⟩])
      .skip)))))
   (.canon [] [3, 5, 10, 11, 12] (.sub 1 zaj_b1))))))))
  (.reg 12 none [
   oP 116 (.bin false .add (.t 12) (.v (.int .i64 1))),
   oP 12 (.mv (.t 116))])))))
def zaj_q : IQ :=
 (.seq
 (.reg 2 none [
  oP 2 (.mv (.v (.bool false)))])
 (.seq
 (.reg 3 none [
  oP 8 (.build [.int .i64 0, .map none] [(0, 1, (.v (.int .i64 1)))]),
  oP 9 (.bslice 92 2 1 [.int .i64 0, .map none] [(0, (.t 8))]),
  oP 3 (.mv (.t 9))])
 (.seq
 (.seq
 (.reg 12 none [
  oP 10 (.mv (.t 0)),
  oP 11 (.len (.t 10)),
  oP 12 (.mv (.v (.int .i64 0)))])
 (.block 0
  (.canon [] [3, 10, 11, 12] (.sub 0 zaj_b0))))
 (.seq
 (.reg 2 none [
  oP 117 (.mv (.t 3)),
  oP 118 (.len (.t 117)),
  oP 119 (.bin false .eql (.t 118) (.v (.int .i64 0))),
  oP 2 (.mv (.t 119))])
 (.canon [] [2] .ret)))))
theorem zaj_chk : chk Tryd.prog 36 [] = some (zaj_q.erase, [.tmp 2], 120) := by kernel_rfl
def zaj_p3_step (open_ : List (Int × MapC × Unit)) : Option (((List (Int × MapC × Unit))) ⊕ ((List (Int × MapC × Unit)))) :=
 gd ((decide ((0 : Int) < (open_.length : Int))) = true → InI64 ((open_.length : Int) - (1 : Int))) <|
 gd ((decide ((0 : Int) < (open_.length : Int))) = true → 0 ≤ ((open_.length : Int) - (1 : Int)) ∧ ((open_.length : Int) - (1 : Int)) < open_.length) <|
 gd ((decide ((0 : Int) < (open_.length : Int))) = true → (Int.toNat ((open_.length : Int) - (1 : Int))) < open_.length) <|
 gd ((decide ((0 : Int) < (open_.length : Int))) = true → (Int.toNat ((open_.length : Int) - (1 : Int))) < open_.length) <|
 bif ((decide ((0 : Int) < (open_.length : Int))) && (decide (((open_.getD (Int.toNat ((open_.length : Int) - (1 : Int))) (NT.dft [.int .i64, .map])).1) = (0 : Int)))) then (
  gd (InI64 ((open_.length : Int) - (1 : Int))) <|
  gd (0 ≤ ((open_.length : Int) - (1 : Int)) ∧ ((open_.length : Int) - (1 : Int)) ≤ open_.length) <|
  some (.inl (open_.take (Int.toNat ((open_.length : Int) - (1 : Int))))))
 else (
  some (.inr open_))
def zaj_p3 (open_ : List (Int × MapC × Unit)) : Option ((List (Int × MapC × Unit))) :=
 whileO (fun x : ((List (Int × MapC × Unit))) => zaj_p3_step x) open_
def zaj_p2 (open_ : List (Int × MapC × Unit)) : Option ((List (Int × MapC × Unit))) :=
 (zaj_p3 open_).bind fun o19 =>
 some o19
def zaj_p1 (open_ : List (Int × MapC × Unit)) (n_Kind : Int) (n_Kids : Int) : Option (Bool ⊕ ((List (Int × MapC × Unit)))) :=
 bif ((decide (n_Kind = (6 : Int))) || (decide (n_Kind = (7 : Int)))) then (
  bif decide ((32 : Int) < (open_.length : Int)) then (
   some (.inl false))
  else (
   bif decide (n_Kind = (7 : Int)) then (
    gd (open_.length + ([(n_Kids, (some []), ())] : List (Int × MapC × Unit)).length ≤ 9223372036854775807 ∧ (open_.length + ([(n_Kids, (some []), ())] : List (Int × MapC × Unit)).length) * 16 ≤ 140737488355328) <|
    (zaj_p2 (open_ ++ [(n_Kids, (some []), ())])).bind fun o20 =>
    some (.inr o20))
   else (
    gd (open_.length + ([(n_Kids, (none : MapC), ())] : List (Int × MapC × Unit)).length ≤ 9223372036854775807 ∧ (open_.length + ([(n_Kids, (none : MapC), ())] : List (Int × MapC × Unit)).length) * 16 ≤ 140737488355328) <|
    (zaj_p2 (open_ ++ [(n_Kids, (none : MapC), ())])).bind fun o21 =>
    some (.inr o21))))
 else (
  (zaj_p2 open_).bind fun o22 =>
  some (.inr o22))
def zaj_p0_step (x11_ : Int) (x12_ : Int) (x10_ : List Eng.Node) (open_ : List (Int × MapC × Unit)) : Option ((Int × (List (Int × MapC × Unit))) ⊕ (Bool ⊕ ((List (Int × MapC × Unit))))) :=
 bif decide (x12_ < x11_) then (
  gd (0 ≤ x12_ ∧ x12_ < x10_.length) <|
  gd ((Int.toNat x12_) < x10_.length) <|
  bif decide ((open_.length : Int) = (0 : Int)) then (
   some (.inr (.inl false)))
  else (
   (zak_s (x10_.getD (Int.toNat x12_) (ET.dft .node))).bind fun r17 =>
   bif (!r17) then (
    some (.inr (.inl false)))
   else (
    gd (InI64 ((open_.length : Int) - (1 : Int))) <|
    gd (0 ≤ ((open_.length : Int) - (1 : Int)) ∧ ((open_.length : Int) - (1 : Int)) < open_.length) <|
    gd ((Int.toNat ((open_.length : Int) - (1 : Int))) < open_.length) <|
    gd ((Int.toNat ((open_.length : Int) - (1 : Int))) < open_.length) <|
    gd ((Int.toNat ((open_.length : Int) - (1 : Int))) < open_.length) <|
    gd (InI64 (((open_.getD (Int.toNat ((open_.length : Int) - (1 : Int))) (NT.dft [.int .i64, .map])).1) - (1 : Int))) <|
    gd ((Int.toNat ((open_.length : Int) - (1 : Int))) < open_.length) <|
    gd ((Int.toNat ((open_.length : Int) - (1 : Int))) < open_.length) <|
    gd ((Int.toNat ((open_.length : Int) - (1 : Int))) < open_.length) <|
    gd ((Int.toNat ((open_.length : Int) - (1 : Int))) < (open_.set (Int.toNat ((open_.length : Int) - (1 : Int))) ((((open_.getD (Int.toNat ((open_.length : Int) - (1 : Int))) (NT.dft [.int .i64, .map])).1) - (1 : Int)), (open_.getD (Int.toNat ((open_.length : Int) - (1 : Int))) (NT.dft [.int .i64, .map])).2)).length) <|
    gd ((Int.toNat ((open_.length : Int) - (1 : Int))) < (open_.set (Int.toNat ((open_.length : Int) - (1 : Int))) ((((open_.getD (Int.toNat ((open_.length : Int) - (1 : Int))) (NT.dft [.int .i64, .map])).1) - (1 : Int)), (open_.getD (Int.toNat ((open_.length : Int) - (1 : Int))) (NT.dft [.int .i64, .map])).2)).length) <|
    gd ((Int.toNat ((open_.length : Int) - (1 : Int))) < (open_.set (Int.toNat ((open_.length : Int) - (1 : Int))) ((((open_.getD (Int.toNat ((open_.length : Int) - (1 : Int))) (NT.dft [.int .i64, .map])).1) - (1 : Int)), (open_.getD (Int.toNat ((open_.length : Int) - (1 : Int))) (NT.dft [.int .i64, .map])).2)).length) <|
    gd ((Int.toNat ((open_.length : Int) - (1 : Int))) < (open_.set (Int.toNat ((open_.length : Int) - (1 : Int))) ((((open_.getD (Int.toNat ((open_.length : Int) - (1 : Int))) (NT.dft [.int .i64, .map])).1) - (1 : Int)), (open_.getD (Int.toNat ((open_.length : Int) - (1 : Int))) (NT.dft [.int .i64, .map])).2)).length) <|
    gd ((((((open_.set (Int.toNat ((open_.length : Int) - (1 : Int))) ((((open_.getD (Int.toNat ((open_.length : Int) - (1 : Int))) (NT.dft [.int .i64, .map])).1) - (1 : Int)), (open_.getD (Int.toNat ((open_.length : Int) - (1 : Int))) (NT.dft [.int .i64, .map])).2)).getD (Int.toNat ((open_.length : Int) - (1 : Int))) (NT.dft [.int .i64, .map])).2.1).isNone) && (!decide (((x10_.getD (Int.toNat x12_) (ET.dft .node)).key) = (⟨#[]⟩ : ByteArray)))) = false → (Int.toNat ((open_.length : Int) - (1 : Int))) < (open_.set (Int.toNat ((open_.length : Int) - (1 : Int))) ((((open_.getD (Int.toNat ((open_.length : Int) - (1 : Int))) (NT.dft [.int .i64, .map])).1) - (1 : Int)), (open_.getD (Int.toNat ((open_.length : Int) - (1 : Int))) (NT.dft [.int .i64, .map])).2)).length) <|
    gd ((((((open_.set (Int.toNat ((open_.length : Int) - (1 : Int))) ((((open_.getD (Int.toNat ((open_.length : Int) - (1 : Int))) (NT.dft [.int .i64, .map])).1) - (1 : Int)), (open_.getD (Int.toNat ((open_.length : Int) - (1 : Int))) (NT.dft [.int .i64, .map])).2)).getD (Int.toNat ((open_.length : Int) - (1 : Int))) (NT.dft [.int .i64, .map])).2.1).isNone) && (!decide (((x10_.getD (Int.toNat x12_) (ET.dft .node)).key) = (⟨#[]⟩ : ByteArray)))) = false → (Int.toNat ((open_.length : Int) - (1 : Int))) < (open_.set (Int.toNat ((open_.length : Int) - (1 : Int))) ((((open_.getD (Int.toNat ((open_.length : Int) - (1 : Int))) (NT.dft [.int .i64, .map])).1) - (1 : Int)), (open_.getD (Int.toNat ((open_.length : Int) - (1 : Int))) (NT.dft [.int .i64, .map])).2)).length) <|
    gd ((((((open_.set (Int.toNat ((open_.length : Int) - (1 : Int))) ((((open_.getD (Int.toNat ((open_.length : Int) - (1 : Int))) (NT.dft [.int .i64, .map])).1) - (1 : Int)), (open_.getD (Int.toNat ((open_.length : Int) - (1 : Int))) (NT.dft [.int .i64, .map])).2)).getD (Int.toNat ((open_.length : Int) - (1 : Int))) (NT.dft [.int .i64, .map])).2.1).isNone) && (!decide (((x10_.getD (Int.toNat x12_) (ET.dft .node)).key) = (⟨#[]⟩ : ByteArray)))) = false → (Int.toNat ((open_.length : Int) - (1 : Int))) < (open_.set (Int.toNat ((open_.length : Int) - (1 : Int))) ((((open_.getD (Int.toNat ((open_.length : Int) - (1 : Int))) (NT.dft [.int .i64, .map])).1) - (1 : Int)), (open_.getD (Int.toNat ((open_.length : Int) - (1 : Int))) (NT.dft [.int .i64, .map])).2)).length) <|
    gd ((((((open_.set (Int.toNat ((open_.length : Int) - (1 : Int))) ((((open_.getD (Int.toNat ((open_.length : Int) - (1 : Int))) (NT.dft [.int .i64, .map])).1) - (1 : Int)), (open_.getD (Int.toNat ((open_.length : Int) - (1 : Int))) (NT.dft [.int .i64, .map])).2)).getD (Int.toNat ((open_.length : Int) - (1 : Int))) (NT.dft [.int .i64, .map])).2.1).isNone) && (!decide (((x10_.getD (Int.toNat x12_) (ET.dft .node)).key) = (⟨#[]⟩ : ByteArray)))) = false → (Int.toNat ((open_.length : Int) - (1 : Int))) < (open_.set (Int.toNat ((open_.length : Int) - (1 : Int))) ((((open_.getD (Int.toNat ((open_.length : Int) - (1 : Int))) (NT.dft [.int .i64, .map])).1) - (1 : Int)), (open_.getD (Int.toNat ((open_.length : Int) - (1 : Int))) (NT.dft [.int .i64, .map])).2)).length) <|
    (utf8_ValidString_s ((x10_.getD (Int.toNat x12_) (ET.dft .node)).key)).bind fun r18 =>
    bif (((((((open_.set (Int.toNat ((open_.length : Int) - (1 : Int))) ((((open_.getD (Int.toNat ((open_.length : Int) - (1 : Int))) (NT.dft [.int .i64, .map])).1) - (1 : Int)), (open_.getD (Int.toNat ((open_.length : Int) - (1 : Int))) (NT.dft [.int .i64, .map])).2)).getD (Int.toNat ((open_.length : Int) - (1 : Int))) (NT.dft [.int .i64, .map])).2.1).isNone) && (!decide (((x10_.getD (Int.toNat x12_) (ET.dft .node)).key) = (⟨#[]⟩ : ByteArray)))) || (decide ((0 : Int) < (mget (((open_.set (Int.toNat ((open_.length : Int) - (1 : Int))) ((((open_.getD (Int.toNat ((open_.length : Int) - (1 : Int))) (NT.dft [.int .i64, .map])).1) - (1 : Int)), (open_.getD (Int.toNat ((open_.length : Int) - (1 : Int))) (NT.dft [.int .i64, .map])).2)).getD (Int.toNat ((open_.length : Int) - (1 : Int))) (NT.dft [.int .i64, .map])).2.1) ((x10_.getD (Int.toNat x12_) (ET.dft .node)).key))))) || (!r18)) then (
     some (.inr (.inl false)))
    else (
     gd ((Int.toNat ((open_.length : Int) - (1 : Int))) < (open_.set (Int.toNat ((open_.length : Int) - (1 : Int))) ((((open_.getD (Int.toNat ((open_.length : Int) - (1 : Int))) (NT.dft [.int .i64, .map])).1) - (1 : Int)), (open_.getD (Int.toNat ((open_.length : Int) - (1 : Int))) (NT.dft [.int .i64, .map])).2)).length) <|
     gd ((Int.toNat ((open_.length : Int) - (1 : Int))) < (open_.set (Int.toNat ((open_.length : Int) - (1 : Int))) ((((open_.getD (Int.toNat ((open_.length : Int) - (1 : Int))) (NT.dft [.int .i64, .map])).1) - (1 : Int)), (open_.getD (Int.toNat ((open_.length : Int) - (1 : Int))) (NT.dft [.int .i64, .map])).2)).length) <|
     gd ((Int.toNat ((open_.length : Int) - (1 : Int))) < (open_.set (Int.toNat ((open_.length : Int) - (1 : Int))) ((((open_.getD (Int.toNat ((open_.length : Int) - (1 : Int))) (NT.dft [.int .i64, .map])).1) - (1 : Int)), (open_.getD (Int.toNat ((open_.length : Int) - (1 : Int))) (NT.dft [.int .i64, .map])).2)).length) <|
     gd ((Int.toNat ((open_.length : Int) - (1 : Int))) < (open_.set (Int.toNat ((open_.length : Int) - (1 : Int))) ((((open_.getD (Int.toNat ((open_.length : Int) - (1 : Int))) (NT.dft [.int .i64, .map])).1) - (1 : Int)), (open_.getD (Int.toNat ((open_.length : Int) - (1 : Int))) (NT.dft [.int .i64, .map])).2)).length) <|
     bif (((open_.set (Int.toNat ((open_.length : Int) - (1 : Int))) ((((open_.getD (Int.toNat ((open_.length : Int) - (1 : Int))) (NT.dft [.int .i64, .map])).1) - (1 : Int)), (open_.getD (Int.toNat ((open_.length : Int) - (1 : Int))) (NT.dft [.int .i64, .map])).2)).getD (Int.toNat ((open_.length : Int) - (1 : Int))) (NT.dft [.int .i64, .map])).2.1).isSome then (
      gd ((Int.toNat ((open_.length : Int) - (1 : Int))) < (open_.set (Int.toNat ((open_.length : Int) - (1 : Int))) ((((open_.getD (Int.toNat ((open_.length : Int) - (1 : Int))) (NT.dft [.int .i64, .map])).1) - (1 : Int)), (open_.getD (Int.toNat ((open_.length : Int) - (1 : Int))) (NT.dft [.int .i64, .map])).2)).length) <|
      gd ((Int.toNat ((open_.length : Int) - (1 : Int))) < (open_.set (Int.toNat ((open_.length : Int) - (1 : Int))) ((((open_.getD (Int.toNat ((open_.length : Int) - (1 : Int))) (NT.dft [.int .i64, .map])).1) - (1 : Int)), (open_.getD (Int.toNat ((open_.length : Int) - (1 : Int))) (NT.dft [.int .i64, .map])).2)).length) <|
      gd ((Int.toNat ((open_.length : Int) - (1 : Int))) < (open_.set (Int.toNat ((open_.length : Int) - (1 : Int))) ((((open_.getD (Int.toNat ((open_.length : Int) - (1 : Int))) (NT.dft [.int .i64, .map])).1) - (1 : Int)), (open_.getD (Int.toNat ((open_.length : Int) - (1 : Int))) (NT.dft [.int .i64, .map])).2)).length) <|
      gd ((Int.toNat ((open_.length : Int) - (1 : Int))) < (open_.set (Int.toNat ((open_.length : Int) - (1 : Int))) ((((open_.getD (Int.toNat ((open_.length : Int) - (1 : Int))) (NT.dft [.int .i64, .map])).1) - (1 : Int)), (open_.getD (Int.toNat ((open_.length : Int) - (1 : Int))) (NT.dft [.int .i64, .map])).2)).length) <|
      gd ((((open_.set (Int.toNat ((open_.length : Int) - (1 : Int))) ((((open_.getD (Int.toNat ((open_.length : Int) - (1 : Int))) (NT.dft [.int .i64, .map])).1) - (1 : Int)), (open_.getD (Int.toNat ((open_.length : Int) - (1 : Int))) (NT.dft [.int .i64, .map])).2)).getD (Int.toNat ((open_.length : Int) - (1 : Int))) (NT.dft [.int .i64, .map])).2.1).isSome = true) <|
      (zaj_p1 ((open_.set (Int.toNat ((open_.length : Int) - (1 : Int))) ((((open_.getD (Int.toNat ((open_.length : Int) - (1 : Int))) (NT.dft [.int .i64, .map])).1) - (1 : Int)), (open_.getD (Int.toNat ((open_.length : Int) - (1 : Int))) (NT.dft [.int .i64, .map])).2)).set (Int.toNat ((open_.length : Int) - (1 : Int))) (((open_.set (Int.toNat ((open_.length : Int) - (1 : Int))) ((((open_.getD (Int.toNat ((open_.length : Int) - (1 : Int))) (NT.dft [.int .i64, .map])).1) - (1 : Int)), (open_.getD (Int.toNat ((open_.length : Int) - (1 : Int))) (NT.dft [.int .i64, .map])).2)).getD (Int.toNat ((open_.length : Int) - (1 : Int))) (NT.dft [.int .i64, .map])).1, ((mput (((open_.set (Int.toNat ((open_.length : Int) - (1 : Int))) ((((open_.getD (Int.toNat ((open_.length : Int) - (1 : Int))) (NT.dft [.int .i64, .map])).1) - (1 : Int)), (open_.getD (Int.toNat ((open_.length : Int) - (1 : Int))) (NT.dft [.int .i64, .map])).2)).getD (Int.toNat ((open_.length : Int) - (1 : Int))) (NT.dft [.int .i64, .map])).2.1) ((x10_.getD (Int.toNat x12_) (ET.dft .node)).key) (1 : Int)), (((open_.set (Int.toNat ((open_.length : Int) - (1 : Int))) ((((open_.getD (Int.toNat ((open_.length : Int) - (1 : Int))) (NT.dft [.int .i64, .map])).1) - (1 : Int)), (open_.getD (Int.toNat ((open_.length : Int) - (1 : Int))) (NT.dft [.int .i64, .map])).2)).getD (Int.toNat ((open_.length : Int) - (1 : Int))) (NT.dft [.int .i64, .map])).2).2))) ((x10_.getD (Int.toNat x12_) (ET.dft .node)).kind) ((x10_.getD (Int.toNat x12_) (ET.dft .node)).kids)).bind fun o23 => (Sum.elim (fun (o23_0 : Bool) =>
       some (.inr (.inl o23_0))) (fun (o23_1 : (List (Int × MapC × Unit))) =>
       gd (InI64 (x12_ + (1 : Int))) <|
       some (.inl ((x12_ + (1 : Int)), o23_1)))) o23)
     else (
      (zaj_p1 (open_.set (Int.toNat ((open_.length : Int) - (1 : Int))) ((((open_.getD (Int.toNat ((open_.length : Int) - (1 : Int))) (NT.dft [.int .i64, .map])).1) - (1 : Int)), (open_.getD (Int.toNat ((open_.length : Int) - (1 : Int))) (NT.dft [.int .i64, .map])).2)) ((x10_.getD (Int.toNat x12_) (ET.dft .node)).kind) ((x10_.getD (Int.toNat x12_) (ET.dft .node)).kids)).bind fun o24 => (Sum.elim (fun (o24_0 : Bool) =>
       some (.inr (.inl o24_0))) (fun (o24_1 : (List (Int × MapC × Unit))) =>
       gd (InI64 (x12_ + (1 : Int))) <|
       some (.inl ((x12_ + (1 : Int)), o24_1)))) o24)))))
 else (
  some (.inr (.inr open_)))
def zaj_p0 (x11_ : Int) (x12_ : Int) (x10_ : List Eng.Node) (open_ : List (Int × MapC × Unit)) : Option (Bool ⊕ ((List (Int × MapC × Unit)))) :=
 whileO (fun x : (Int × (List (Int × MapC × Unit))) => zaj_p0_step x11_ x.1 x10_ x.2) (x12_, open_)
def zaj_s (v : (List Eng.Node)) : Option Bool :=
 (zaj_p0 (v.length : Int) (0 : Int) v [((1 : Int), (none : MapC), ())]).bind fun o25 => (Sum.elim (fun (o25_0 : Bool) =>
  some o25_0) (fun (o25_1 : (List (Int × MapC × Unit))) =>
  some (decide ((o25_1.length : Int) = (0 : Int))))) o25
def zaj_G : Nat → Option CQ := tblQ [(51, zak_w), (31, utf8_ValidString_w)]
theorem zaj_Gok : ∀ f C, zaj_G f = some C → ValidQ Tryd.prog f C := tblQ_valid ⟨zak_ok, utf8_ValidString_ok, trivial⟩
def zaj_d3 := (dQS (dCons (dSl 3 (dVC (dCO (dBsl 1)))) (dCons (dSl 10 (dVC (dCO (dO 0)))) (dCons (dSl 11 (dVC (dCO (dI .i64)))) (dCons (dSl 12 (dVC (dCO (dI .i64)))) dNil)))) (dCons (dView .node) (dCons (dBag [.int .i64, .map] 92) dNil)))
def zaj_l3 : SubQ := fun S R kn kx kr => (Dec.d zaj_d3 S).bind fun x => (zaj_p3 x.2.2.1).bind fun r => kx 3 ⟨[(3, [], .c (.o (.bsl 1))), (10, [], .c (.o (.own 0))), (11, [], .c (.o (.val (.int .i64 x.1.2.2.1)))), (12, [], .c (.o (.val (.int .i64 x.1.2.2.2.1))))], [], [.view .node x.2.1, .bag [.int .i64, .map] 92 r]⟩
def zaj_d2 := (dQS (dCons (dSl 3 (dVC (dCO (dBsl 1)))) (dCons (dSl 10 (dVC (dCO (dO 0)))) (dCons (dSl 11 (dVC (dCO (dI .i64)))) (dCons (dSl 12 (dVC (dCO (dI .i64)))) dNil)))) (dCons (dView .node) (dCons (dBag [.int .i64, .map] 92) dNil)))
def zaj_l2 : SubQ := fun S R kn kx kr => (Dec.d zaj_d2 S).bind fun x => (zaj_p2 x.2.2.1).bind fun r => kn ⟨[(3, [], .c (.o (.bsl 1))), (10, [], .c (.o (.own 0))), (11, [], .c (.o (.val (.int .i64 x.1.2.2.1)))), (12, [], .c (.o (.val (.int .i64 x.1.2.2.2.1))))], [], [.view .node x.2.1, .bag [.int .i64, .map] 92 r]⟩
def zaj_d1 := (dQS (dCons (dSl 3 (dVC (dCO (dBsl 1)))) (dCons (dSl 5 (dVC (dCO (dH 2 0)))) (dCons (dSl 10 (dVC (dCO (dO 0)))) (dCons (dSl 11 (dVC (dCO (dI .i64)))) (dCons (dSl 12 (dVC (dCO (dI .i64)))) dNil))))) (dCons (dView .node) (dCons (dBag [.int .i64, .map] 92) (dCons (dCells 36 (dCons (dI .i64) (dCons dS (dCons dS (dCons dB (dCons (dI .i64) (dCons (dI .i64) dNil))))))) dNil))))
def zaj_l1 : SubQ := fun S R kn kx kr => (Dec.d zaj_d1 S).bind fun x => (zaj_p1 x.2.2.1 x.2.2.2.1.1 x.2.2.2.1.2.2.2.2.2.1).bind fun r => (Sum.elim (fun (r_0 : Bool) => kr ⟨[(2, [], .c (.o (.val (.bool r_0))))], [], [.view .node x.2.1]⟩) (fun (r_1 : (List (Int × MapC × Unit))) => kn ⟨[(3, [], .c (.o (.bsl 1))), (10, [], .c (.o (.own 0))), (11, [], .c (.o (.val (.int .i64 x.1.2.2.2.1)))), (12, [], .c (.o (.val (.int .i64 x.1.2.2.2.2.1))))], [], [.view .node x.2.1, .bag [.int .i64, .map] 92 r_1]⟩)) r
def zaj_d0 := (dQS (dCons (dSl 3 (dVC (dCO (dBsl 1)))) (dCons (dSl 10 (dVC (dCO (dO 0)))) (dCons (dSl 11 (dVC (dCO (dI .i64)))) (dCons (dSl 12 (dVC (dCO (dI .i64)))) dNil)))) (dCons (dView .node) (dCons (dBag [.int .i64, .map] 92) dNil)))
def zaj_l0 : SubQ := fun S R kn kx kr => (Dec.d zaj_d0 S).bind fun x => (zaj_p0 x.1.2.2.1 x.1.2.2.2.1 x.2.1 x.2.2.1).bind fun r => (Sum.elim (fun (r_0 : Bool) => kr ⟨[(2, [], .c (.o (.val (.bool r_0))))], [], [.view .node x.2.1]⟩) (fun (r_1 : (List (Int × MapC × Unit))) => kx 0 ⟨[(3, [], .c (.o (.bsl 1)))], [], [.view .node x.2.1, .bag [.int .i64, .map] 92 r_1]⟩)) r
def zaj_L : Nat → SubQ := tblL [(3, zaj_l3), (2, zaj_l2), (1, zaj_l1), (0, zaj_l0)]
theorem zaj_p3_eq (x11_ : Int) (x12_ : Int) (x10_ : List Eng.Node) (open_ : List (Int × MapC × Unit)) (R : Type) (kn : QS → Option R) (kx : Nat → QS → Option R) (kr : QS → Option R) :
  interpQ zaj_L zaj_G 1 13 120 zaj_b3 ⟨[(3, [], .c (.o (.bsl 1))), (10, [], .c (.o (.own 0))), (11, [], .c (.o (.val (.int .i64 x11_)))), (12, [], .c (.o (.val (.int .i64 x12_))))], [], [.view .node x10_, .bag [.int .i64, .map] 92 open_]⟩ kn kx kr = (zaj_p3 open_).bind fun r => kx 3 ⟨[(3, [], .c (.o (.bsl 1))), (10, [], .c (.o (.own 0))), (11, [], .c (.o (.val (.int .i64 x11_)))), (12, [], .c (.o (.val (.int .i64 x12_))))], [], [.view .node x10_, .bag [.int .i64, .map] 92 r]⟩ := by
 refine loop_piece (step := fun x => zaj_p3_step x) (enc := fun x => ⟨[(3, [], .c (.o (.bsl 1))), (10, [], .c (.o (.own 0))), (11, [], .c (.o (.val (.int .i64 x11_)))), (12, [], .c (.o (.val (.int .i64 x12_))))], [], [.view .node x10_, .bag [.int .i64, .map] 92 x]⟩) (ko := fun r => kx 3 ⟨[(3, [], .c (.o (.bsl 1))), (10, [], .c (.o (.own 0))), (11, [], .c (.o (.val (.int .i64 x11_)))), (12, [], .c (.o (.val (.int .i64 x12_))))], [], [.view .node x10_, .bag [.int .i64, .map] 92 r]⟩) ?_ ?_ open_
 ·intro x; kernel_rfl
 ·intro x ki; simp only [zaj_p3_step, -eq_self, bind_cond, bind_gd, Option.bind_assoc, obS, Sum.elim_inl, Sum.elim_inr, bind_elim]; kernel_rfl
theorem zaj_sub3 : SubOK zaj_L zaj_G 1 13 120 3 zaj_b3 := sub_ok' zaj_d3 (fun x R kn kx kr => (zaj_p3 x.2.2.1).bind fun r => kx 3 ⟨[(3, [], .c (.o (.bsl 1))), (10, [], .c (.o (.own 0))), (11, [], .c (.o (.val (.int .i64 x.1.2.2.1)))), (12, [], .c (.o (.val (.int .i64 x.1.2.2.2.1))))], [], [.view .node x.2.1, .bag [.int .i64, .map] 92 r]⟩) (by kernel_rfl) fun x R kn kx kr => zaj_p3_eq x.1.2.2.1 x.1.2.2.2.1 x.2.1 x.2.2.1 R kn kx kr
theorem zaj_p2_eq (x11_ : Int) (x12_ : Int) (x10_ : List Eng.Node) (open_ : List (Int × MapC × Unit)) (R : Type) (kn : QS → Option R) (kx : Nat → QS → Option R) (kr : QS → Option R) :
  interpQ zaj_L zaj_G 1 13 120 zaj_b2 ⟨[(3, [], .c (.o (.bsl 1))), (10, [], .c (.o (.own 0))), (11, [], .c (.o (.val (.int .i64 x11_)))), (12, [], .c (.o (.val (.int .i64 x12_))))], [], [.view .node x10_, .bag [.int .i64, .map] 92 open_]⟩ kn kx kr = (zaj_p2 open_).bind fun r => kn ⟨[(3, [], .c (.o (.bsl 1))), (10, [], .c (.o (.own 0))), (11, [], .c (.o (.val (.int .i64 x11_)))), (12, [], .c (.o (.val (.int .i64 x12_))))], [], [.view .node x10_, .bag [.int .i64, .map] 92 r]⟩ := by
 simp only [zaj_p2, -eq_self, bind_cond, bind_gd, Option.bind_assoc, obS, Sum.elim_inl, Sum.elim_inr, bind_elim]
 kernel_rfl
theorem zaj_sub2 : SubOK zaj_L zaj_G 1 13 120 2 zaj_b2 := sub_ok' zaj_d2 (fun x R kn kx kr => (zaj_p2 x.2.2.1).bind fun r => kn ⟨[(3, [], .c (.o (.bsl 1))), (10, [], .c (.o (.own 0))), (11, [], .c (.o (.val (.int .i64 x.1.2.2.1)))), (12, [], .c (.o (.val (.int .i64 x.1.2.2.2.1))))], [], [.view .node x.2.1, .bag [.int .i64, .map] 92 r]⟩) (by kernel_rfl) fun x R kn kx kr => zaj_p2_eq x.1.2.2.1 x.1.2.2.2.1 x.2.1 x.2.2.1 R kn kx kr
theorem zaj_p1_eq (x11_ : Int) (x12_ : Int) (x10_ : List Eng.Node) (open_ : List (Int × MapC × Unit)) (n_Kind : Int) (n_Key : ByteArray) (n_Text : ByteArray) (n_Whole : Bool) (n_Int : Int) (n_Kids : Int) (R : Type) (kn : QS → Option R) (kx : Nat → QS → Option R) (kr : QS → Option R) :
  interpQ zaj_L zaj_G 1 13 120 zaj_b1 ⟨[(3, [], .c (.o (.bsl 1))), (5, [], .c (.o (.hd 2 0))), (10, [], .c (.o (.own 0))), (11, [], .c (.o (.val (.int .i64 x11_)))), (12, [], .c (.o (.val (.int .i64 x12_))))], [], [.view .node x10_, .bag [.int .i64, .map] 92 open_, .cells 36 [.val (.int .i64 n_Kind), .val (.string n_Key), .val (.string n_Text), .val (.bool n_Whole), .val (.int .i64 n_Int), .val (.int .i64 n_Kids)]]⟩ kn kx kr = (zaj_p1 open_ n_Kind n_Kids).bind fun r => (Sum.elim (fun (r_0 : Bool) => kr ⟨[(2, [], .c (.o (.val (.bool r_0))))], [], [.view .node x10_]⟩) (fun (r_1 : (List (Int × MapC × Unit))) => kn ⟨[(3, [], .c (.o (.bsl 1))), (10, [], .c (.o (.own 0))), (11, [], .c (.o (.val (.int .i64 x11_)))), (12, [], .c (.o (.val (.int .i64 x12_))))], [], [.view .node x10_, .bag [.int .i64, .map] 92 r_1]⟩)) r := by
 simp only [zaj_p1, -eq_self, bind_cond, bind_gd, Option.bind_assoc, obS, Sum.elim_inl, Sum.elim_inr, bind_elim]
 kernel_rfl
theorem zaj_sub1 : SubOK zaj_L zaj_G 1 13 120 1 zaj_b1 := sub_ok' zaj_d1 (fun x R kn kx kr => (zaj_p1 x.2.2.1 x.2.2.2.1.1 x.2.2.2.1.2.2.2.2.2.1).bind fun r => (Sum.elim (fun (r_0 : Bool) => kr ⟨[(2, [], .c (.o (.val (.bool r_0))))], [], [.view .node x.2.1]⟩) (fun (r_1 : (List (Int × MapC × Unit))) => kn ⟨[(3, [], .c (.o (.bsl 1))), (10, [], .c (.o (.own 0))), (11, [], .c (.o (.val (.int .i64 x.1.2.2.2.1)))), (12, [], .c (.o (.val (.int .i64 x.1.2.2.2.2.1))))], [], [.view .node x.2.1, .bag [.int .i64, .map] 92 r_1]⟩)) r) (by kernel_rfl) fun x R kn kx kr => zaj_p1_eq x.1.2.2.2.1 x.1.2.2.2.2.1 x.2.1 x.2.2.1 x.2.2.2.1.1 x.2.2.2.1.2.1 x.2.2.2.1.2.2.1 x.2.2.2.1.2.2.2.1 x.2.2.2.1.2.2.2.2.1 x.2.2.2.1.2.2.2.2.2.1 R kn kx kr
theorem zaj_p0_eq (x11_ : Int) (x12_ : Int) (x10_ : List Eng.Node) (open_ : List (Int × MapC × Unit)) (R : Type) (kn : QS → Option R) (kx : Nat → QS → Option R) (kr : QS → Option R) :
  interpQ zaj_L zaj_G 1 13 120 zaj_b0 ⟨[(3, [], .c (.o (.bsl 1))), (10, [], .c (.o (.own 0))), (11, [], .c (.o (.val (.int .i64 x11_)))), (12, [], .c (.o (.val (.int .i64 x12_))))], [], [.view .node x10_, .bag [.int .i64, .map] 92 open_]⟩ kn kx kr = (zaj_p0 x11_ x12_ x10_ open_).bind fun r => (Sum.elim (fun (r_0 : Bool) => kr ⟨[(2, [], .c (.o (.val (.bool r_0))))], [], [.view .node x10_]⟩) (fun (r_1 : (List (Int × MapC × Unit))) => kx 0 ⟨[(3, [], .c (.o (.bsl 1)))], [], [.view .node x10_, .bag [.int .i64, .map] 92 r_1]⟩)) r := by
 refine loop_piece (step := fun x => zaj_p0_step x11_ x.1 x10_ x.2) (enc := fun x => ⟨[(3, [], .c (.o (.bsl 1))), (10, [], .c (.o (.own 0))), (11, [], .c (.o (.val (.int .i64 x11_)))), (12, [], .c (.o (.val (.int .i64 x.1))))], [], [.view .node x10_, .bag [.int .i64, .map] 92 x.2]⟩) (ko := fun r => (Sum.elim (fun (r_0 : Bool) => kr ⟨[(2, [], .c (.o (.val (.bool r_0))))], [], [.view .node x10_]⟩) (fun (r_1 : (List (Int × MapC × Unit))) => kx 0 ⟨[(3, [], .c (.o (.bsl 1)))], [], [.view .node x10_, .bag [.int .i64, .map] 92 r_1]⟩)) r) ?_ ?_ (x12_, open_)
 ·intro x; kernel_rfl
 ·intro x ki; simp only [zaj_p0_step, -eq_self, bind_cond, bind_gd, Option.bind_assoc, obS, Sum.elim_inl, Sum.elim_inr, bind_elim]; kernel_rfl
theorem zaj_sub0 : SubOK zaj_L zaj_G 1 13 120 0 zaj_b0 := sub_ok' zaj_d0 (fun x R kn kx kr => (zaj_p0 x.1.2.2.1 x.1.2.2.2.1 x.2.1 x.2.2.1).bind fun r => (Sum.elim (fun (r_0 : Bool) => kr ⟨[(2, [], .c (.o (.val (.bool r_0))))], [], [.view .node x.2.1]⟩) (fun (r_1 : (List (Int × MapC × Unit))) => kx 0 ⟨[(3, [], .c (.o (.bsl 1)))], [], [.view .node x.2.1, .bag [.int .i64, .map] 92 r_1]⟩)) r) (by kernel_rfl) fun x R kn kx kr => zaj_p0_eq x.1.2.2.1 x.1.2.2.2.1 x.2.1 x.2.2.1 R kn kx kr
theorem zaj_subs : subsOK zaj_L zaj_G 1 13 120 zaj_q := subs_of (show AllSub zaj_L zaj_G 1 13 120 [(0, zaj_b0), (1, zaj_b1), (2, zaj_b2), (3, zaj_b3)] from ⟨zaj_sub0, zaj_sub1, zaj_sub2, zaj_sub3, trivial⟩)
theorem zaj_eq (v : (List Eng.Node)) (R : Type) (k : SV → List SB → Option R) :
  fnQ zaj_L zaj_G 13 120 zaj_q [.tmp 2] [.c (.o (.own 0))] [.view .node v] k = (zaj_s v).bind fun r => k (.c (.o (.val (.bool r)))) [.view .node v] := by
 simp only [zaj_s, -eq_self, bind_cond, bind_gd, Option.bind_assoc, obS, Sum.elim_inl, Sum.elim_inr, bind_elim]
 kernel_rfl
def zaj_da := (dCons (dVC (dCO (dO 0))) dNil)
def zaj_db := (dCons (dView .node) dNil)
def zaj_c : CS := fun args hp R k => (Dec.d zaj_da args).bind fun x => (Dec.d zaj_db hp).bind fun y => (zaj_s y.1).bind fun r => k (.c (.o (.val (.bool r)))) [.view .node y.1]
theorem zaj_val : ValidS Tryd.prog 36 zaj_c :=
 val_ok zaj_chk 13 zaj_Gok zaj_da zaj_db 1 (fun x y R k => (zaj_s y.1).bind fun r => k (.c (.o (.val (.bool r)))) [.view .node y.1]) (by kernel_rfl)
  (fun x y R k => by simp only [Option.bind_assoc, obS]) (fun x => Nat.le_of_ble_eq_true rfl) (fun y => rfl) zaj_subs fun x y => zaj_eq y.1 _ _
def zaj_w : CQ := prepQ [(0, none, some (.node, 36))] (liftV [false] zaj_c)
theorem zaj_ok : ValidQ Tryd.prog 36 zaj_w := prep_quiet zaj_val
end
end Go.Proofs.YtekkjbomadoplaaDoor
