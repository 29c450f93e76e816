/-
  Is a list of nodes a well shaped value? The program (its own pile of what is open) and the document (going down) say the same. No program.
-/
import Derived.Test.YtdcoiccdbgcpaaaDoorEngO
import Derived.Test.YtdcoiccdbgcpaaaDoorProg
import Derived.Test.YtdcoiccdbgcpaaaDoorUtf8
import Derived.Test.YtdcoiccdbgcpaaaDoorGC
import Derived.Test.YtdcoiccdbgcpaaaDoorPUtf
namespace Go.Proofs.YtdcoiccdbgcpaaaDoor
open Go.Eng
set_option linter.unusedVariables false
set_option linter.unusedSimpArgs false
set_option maxRecDepth 100000
noncomputable section
def zan_q:IQ:=(.seq (rg 2 [oP 1 (.box 36 6 t0),oP 2 (.mv vF)]) (.seq (.block 0 (.seq (rg 5 [oP 6 (.faddr 0 t1),oP 7 (.load none t6),oP 8 (.bi .lss t7 (vI 1)),oM 9 t8,oE 10 (.faddr 0 t1) 9,oE 11 (.load none t10) 9,oE 12 (.bi .gtr t11 (vI 7)) 9,oP 13 (.pick t9 vT t12),oM 14 t13,oE 15 (.faddr 5 t1) 14,oE 16 (.load none t15) 14,oE 17 (.bi .lss t16 (vI 0)) 14,oP 18 (.pick t14 vT t17),oM 19 t18,oE 20 (.faddr 5 t1) 19,oE 21 (.load none t20) 19,oE 22 (.bi .gtr t21 (vI 0)) 19,oE 23 (.mv t22) 19,oF 24 (.faddr 0 t1) 23,oF 25 (.load none t24) 23,oF 26 (.bi .neq t25 (vI 6)) 23,oE 27 (.pick t23 t26 vF) 19,oE 28 (.mv t27) 19,oF 29 (.faddr 0 t1) 28,oF 30 (.load none t29) 28,oF 31 (.bi .neq t30 (vI 7)) 28,oE 32 (.pick t28 t31 vF) 19,oP 33 (.pick t19 vT t32),oM 5 t33]) (.cond t5 (.seq (rg 2 [oP 2 (.mv vF)]) (.cn [2] .ret)) (.seq (rg 34 [oP 35 (.faddr 0 t1),oP 36 (.load none t35),oP 37 (.bi .eql t36 (vI 4)),oM 34 t37]) (.cond t34 (.seq (rg 4 [oP 39 (.faddr 2 t1),oP 40 (.load none t39),oP 41 (.call 110 [t40]),oM 38 t41,oP 42 (.extract t38 0),oP 43 (.extract t38 1),oM 3 t42,oM 4 t43]) (.seq (rg 2 [oP 44 (.faddr 2 t1),oP 45 (.load none t44),oP 46 (.call 111 [t45]),oM 47 t46,oF 48 (.faddr 3 t1) 47,oF 49 (.load none t48) 47,oF 50 (.mv t4) 47,oF 51 (.beq false t49 t50) 47,oP 52 (.pick t47 t51 vF),oM 53 t52,oF 54 (.faddr 4 t1) 53,oF 55 (.load none t54) 53,oF 56 (.mv t3) 53,oF 57 (.bi .eql t55 t56) 53,oP 58 (.pick t53 t57 vF),oM 2 t58]) (.cn [2] .ret))) (.seq (rg 59 [oP 60 (.faddr 3 t1),oP 61 (.load none t60),oM 62 t61,oE 63 (.faddr 4 t1) 62,oE 64 (.load none t63) 62,oE 65 (.bi .neq t64 (vI 0)) 62,oP 66 (.pick t62 vT t65),oM 59 t66]) (.cond t59 (.seq (rg 2 [oP 2 (.mv vF)]) (.cn [2] .ret)) (.seq (rg 67 [oP 68 (.faddr 0 t1),oP 69 (.load none t68),oP 70 (.bi .eql t69 (vI 5)),oM 67 t70]) (.cond t67 (.seq (rg 2 [oP 71 (.faddr 2 t1),oP 72 (.load none t71),oP 73 (.call 79 [t72]),oM 2 t73]) (.cn [2] .ret)) .skip))))))))) (.seq (rg 2 [oP 74 (.faddr 2 t1),oP 75 (.load none t74),oP 76 (.bi .eql t75 (.v (.string ⟨#[]⟩))),oM 2 t76]) (.cn [2] .ret))))
theorem zan_chk:chk Tryd.prog 78 []=some (zan_q.erase,[.tmp 2],77):=by kernel_rfl
def zan_s (n:Eng.Node):Option Bool :=
 bif ((((decide (n.kind<(1:Int))) || (decide ((7:Int)<n.kind))) || (decide (n.kids<(0:Int)))) || (((decide ((0:Int)<n.kids)) && (!decide (n.kind=(6:Int)))) && (!decide (n.kind=(7:Int))))) then (
  some false)
 else (
  bif decide (n.kind=(4:Int)) then (
   (zab_s n.text).bind fun r1 =>
   (zaa_s n.text).bind fun r2 =>
   some ((r2 && (n.whole == r1.2)) && (decide (n.int=r1.1))))
  else (
   bif (n.whole || (!decide (n.int=(0:Int)))) then (
    some false)
   else (
    bif decide (n.kind=(5:Int)) then (
     (qBb n.text).bind fun r3 =>
     some r3)
    else (
     some (decide (n.text=(⟨#[]⟩:BA)))))))
def zan_G:Nat→Option CQ:=tblQ [(110,zab_w),(111,zaa_w),(79,qDy)]
theorem zan_Gok:∀f C,zan_G f=some C→qAe Tryd.prog f C:=qAl ⟨zab_ok,zaa_ok,qFz,tV⟩
def zan_L:Nat→SubQ:=tblL []
theorem zan_subs:qAu zan_L zan_G 0 5 77 zan_q:=qAn (show qAv zan_L zan_G 0 5 77 [] from tV)
def zan_da:=(qAb (dVC (dCA (qAb dZ (qAb dS (qAb dS (qAb dB (qAb dZ (qAb dZ dNil)))))))) dNil)
def zan_db:=(dNil:Dec Unit (List SB))
def zan_c:CS:=mkC zan_da zan_db (fun x y=>zan_s (⟨x.1.1,x.1.2.1,x.1.2.2.1,x.1.2.2.2.1,x.1.2.2.2.2.1,x.1.2.2.2.2.2.1⟩:Eng.Node)) (fun x y r=>.c (.o (.vB r))) fun x y r=>[]
theorem zan_val:qAp Tryd.prog 78 zan_c:=qAs zan_chk 5 zan_Gok 0 (fun x=>Nat.le_of_ble_eq_true rfl) (fun y=>rfl) zan_subs fun x y=>by
 simp only [zan_s,-eq_self,qAd,qAg,obA,obS,slL,slR,qAc];kernel_rfl
def zan_w:CQ:=qEg [] zan_c
theorem zan_ok:qAe Tryd.prog 78 zan_w:=qAz zan_val
def zal_b3:IQ:=(.loop [3,10,11,12] (.seq (.seq (rg 110 [oM 98 t3,oP 99 (.len t98),oP 100 (.bi .gtr t99 (vI 0)),oM 101 t100,oF 102 (.mv t3) 101,oF 103 (.mv t3) 101,oF 104 (.len t103) 101,oF 105 (.bi .sub t104 (vI 1)) 101,oF 106 (.iaddr 2 t102 t105) 101,oF 107 (.faddr 0 t106) 101,oF 108 (.load none t107) 101,oF 109 (.bi .eql t108 (vI 0)) 101,oP 110 (.pick t101 t109 vF)]) (.cond t110 .skip (.cn [3,10,11,12] (.exit 3)))) (.block 4 (rg 3 [oM 111 t3,oM 112 t3,oP 113 (.len t112),oP 114 (.bi .sub t113 (vI 1)),oP 115 (.sub (some 2) t111 none (some t114)),oM 3 t115]))))
def zal_b2:IQ:=(.join [] [3,10,11,12] (.block 3 (.cn [3,10,11,12] (.sub 3 zal_b3))))
def zal_b1:IQ:=(.join [] [3,10,11,12] (.seq (.seq (rg 82 [oP 75 (.faddr 0 t5),oP 76 (.load none t75),oP 77 (.bi .eql t76 (vI 6)),oM 78 t77,oE 79 (.faddr 0 t5) 78,oE 80 (.load none t79) 78,oE 81 (.bi .eql t80 (vI 7)) 78,oP 82 (.pick t78 vT t81)]) (.cond t82 (.seq (.seq (rg 85 [oM 83 t3,oP 84 (.len t83),oP 85 (.bi .gtr t84 (vI 32))]) (.cond t85 (.seq (rg 2 [oP 2 (.mv vF)]) (.cn [2] .ret)) .skip)) (.seq (rg 0 [oP 86 (.faddr 5 t5),oP 87 (.load none t86),oP 88 (.build [.int .i64 0,.map none] [(0,1,t87)]),oP 7 (.alloc 101 [.int .i64 0,.map none]),oN (.store 2 t7 t88)]) (.seq (.seq (rg 91 [oP 89 (.faddr 0 t5),oP 90 (.load none t89),oP 91 (.bi .eql t90 (vI 7))]) (.cond t91 (rg 0 [oP 92 (.ext .mkmap []),oP 93 (.faddr 1 t7),oN (.store 1 t93 t92)]) .skip)) (rg 3 [oM 94 t3,oP 95 (.load (some 2) t7),oP 96 (.bslice 101 2 1 [.int .i64 0,.map none] [(0,t95)]),oP 97 (.append 101 2 16 [.int .i64 0,.map none] t94 t96),oM 3 t97])))) .skip)) (.cn [3,10,11,12] (.sub 2 zal_b2))))
def zal_b0:IQ:=(.loop [3,10,11,12] (.seq (rg 13 [oP 13 (.bi .lss t12 t11)]) (.seq (.cond t13 .skip (.cn [3] (.exit 0))) (.seq (.block 1 (.seq (rg 0 [oP 14 (.iaddr 6 t10 t12),oP 15 (.load (some 6) t14),oP 5 (.alloc 36 [.int .i64 0,.string ⟨#[]⟩,.string ⟨#[]⟩,.bool false,.int .i64 0,.int .i64 0]),oN (.store 6 t5 t15)]) (.seq (.seq (rg 23 [oM 16 t3,oP 17 (.len t16),oP 18 (.bi .eql t17 (vI 0)),oM 19 t18,oE 20 (.load (some 6) t5) 19,oE 21 (.call 78 [t20]) 19,oE 22 (.un .not t21) 19,oP 23 (.pick t19 vT t22)]) (.cond t23 (.seq (rg 2 [oP 2 (.mv vF)]) (.cn [2] .ret)) .skip)) (.seq (rg 6 [oM 24 t3,oM 25 t3,oP 26 (.len t25),oP 27 (.bi .sub t26 (vI 1)),oP 28 (.iaddr 2 t24 t27),oM 6 t28]) (.seq (rg 0 (rF 29 t6 0++[oP 33 (.bi .sub t32 (vI 1))]++rS 34 t29 0 t33)) (.seq (.block 2 (.seq (.reg 36 (some [0,1,2,3,4,5,6,7,8,9,10,11,12,13,14,15,16,17,18,19,20,21,22,23,24,25,26]) (rF 37 t6 1++[oP 41 (.ext (.mnil false) [t40]),oM 42 t41,oF 43 (.faddr 1 t5) 42,oF 44 (.load none t43) 42,oF 45 (.bi .neq t44 (.v (.string ⟨#[]⟩))) 42,oP 46 (.pick t42 t45 vF),oM 47 t46]++rH oE 48 t6 1 47++[oE 52 (.faddr 1 t5) 47,oE 53 (.load none t52) 47,oE 54 (.ext .mget [t51,t53]) 47,oE 55 (.bi .gtr t54 (vI 0)) 47,oP 56 (.pick t47 vT t55),oM 57 t56,oE 58 (.faddr 1 t5) 57,oE 59 (.load none t58) 57,oE 60 (.call 79 [t59]) 57,oE 61 (.un .not t60) 57,oP 62 (.pick t57 vT t61),oM 36 t62])) (.cond t36 (.seq (rg 2 [oP 2 (.mv vF)]) (.cn [2] .ret)) (.seq (rg 63 (rF 64 t6 1++[oP 68 (.ext (.mnil true) [t67]),oM 63 t68])) (.cond t63 (.reg 0 (some [0,1,2,3,4,5,6]) (rF 69 t6 1++[oP 73 (.faddr 1 t5),oP 74 (.load none t73),oN (.ext .mput [t72,t74,(vI 1)])])) .skip))))) (.cn [3,5,10,11,12] (.sub 1 zal_b1)))))))) (rg 12 [oP 116 (.bi .add t12 (vI 1)),oM 12 t116])))))
def zal_q:IQ:=(.seq (rg 2 [oP 2 (.mv vF)]) (.seq (rg 3 [oP 8 (.build [.int .i64 0,.map none] [(0,1,(vI 1))]),oP 9 (.bslice 101 2 1 [.int .i64 0,.map none] [(0,t8)]),oM 3 t9]) (.seq (.seq (rg 12 [oM 10 t0,oP 11 (.len t10),oP 12 (.mv (vI 0))]) (.block 0 (.cn [3,10,11,12] (.sub 0 zal_b0)))) (.seq (rg 2 [oM 117 t3,oP 118 (.len t117),oP 119 (.bi .eql t118 (vI 0)),oM 2 t119]) (.cn [2] .ret)))))
theorem zal_chk:chk Tryd.prog 39 []=some (zal_q.erase,[.tmp 2],120):=by kernel_rfl
def qEe (open_:List (Int × MapC × Unit)):Option (((List (Int × MapC × Unit))) ⊕ ((List (Int × MapC × Unit)))) :=
 gd ((decide ((0:Int)<(open_.length:Int)))=true→qAh ((open_.length:Int) - (1:Int))) <|
 gd ((decide ((0:Int)<(open_.length:Int)))=true→0≤((open_.length:Int) - (1:Int))∧((open_.length:Int) - (1:Int))<open_.length) <|
 gd ((decide ((0:Int)<(open_.length:Int)))=true→(Int.toNat ((open_.length:Int) - (1:Int)))<open_.length) <|
 gd ((decide ((0:Int)<(open_.length:Int)))=true→(Int.toNat ((open_.length:Int) - (1:Int)))<open_.length) <|
 bif ((decide ((0:Int)<(open_.length:Int))) && (decide (((open_.getD (Int.toNat ((open_.length:Int) - (1:Int))) (NT.dft [.int .i64,.map])).1)=(0:Int)))) then (
  gd (qAh ((open_.length:Int) - (1:Int))) <|
  gd (0≤((open_.length:Int) - (1:Int))∧((open_.length:Int) - (1:Int))≤open_.length) <|
  some (.inl (open_.take (Int.toNat ((open_.length:Int) - (1:Int))))))
 else (
  some (.inr open_))
def zal_p3 (open_:List (Int × MapC × Unit)):Option ((List (Int × MapC × Unit))) :=
 qBj (fun x:((List (Int × MapC × Unit)))=>qEe x) open_
def zal_p2 (open_:List (Int × MapC × Unit)):Option ((List (Int × MapC × Unit))) :=
 (zal_p3 open_).bind fun o19 =>
 some o19
def zal_p1 (open_:List (Int × MapC × Unit)) (qHn qHo:Int):Option (Bool ⊕ ((List (Int × MapC × Unit)))) :=
 bif ((decide (qHn=(6:Int))) || (decide (qHn=(7:Int)))) then (
  bif decide ((32:Int)<(open_.length:Int)) then (
   some (.inl false))
  else (
   bif decide (qHn=(7:Int)) then (
    gd (open_.length+([(qHo,(some []),())]:List (Int × MapC × Unit)).length≤9223372036854775807∧(open_.length+([(qHo,(some []),())]:List (Int × MapC × Unit)).length)*16≤140737488355328) <|
    (zal_p2 (open_++[(qHo,(some []),())])).bind fun o20 =>
    some (.inr o20))
   else (
    gd (open_.length+([(qHo,(none:MapC),())]:List (Int × MapC × Unit)).length≤9223372036854775807∧(open_.length+([(qHo,(none:MapC),())]:List (Int × MapC × Unit)).length)*16≤140737488355328) <|
    (zal_p2 (open_++[(qHo,(none:MapC),())])).bind fun o21 =>
    some (.inr o21))))
 else (
  (zal_p2 open_).bind fun o22 =>
  some (.inr o22))
def qCf (x11_ x12_:Int) (x10_:List Eng.Node) (open_:List (Int × MapC × Unit)):Option ((Int × (List (Int × MapC × Unit))) ⊕ (Bool ⊕ ((List (Int × MapC × Unit))))) :=
 bif decide (x12_<x11_) then (
  gd (0≤x12_∧x12_<x10_.length) <|
  gd ((Int.toNat x12_)<x10_.length) <|
  bif decide ((open_.length:Int)=(0:Int)) then (
   some (.inr (.inl false)))
  else (
   (zan_s (x10_.getD (Int.toNat x12_) (ET.dft .node))).bind fun r17 =>
   bif (!r17) then (
    some (.inr (.inl false)))
   else (
    gd (qAh ((open_.length:Int) - (1:Int))) <|
    gd (0≤((open_.length:Int) - (1:Int))∧((open_.length:Int) - (1:Int))<open_.length) <|
    gd ((Int.toNat ((open_.length:Int) - (1:Int)))<open_.length) <|
    gd ((Int.toNat ((open_.length:Int) - (1:Int)))<open_.length) <|
    gd ((Int.toNat ((open_.length:Int) - (1:Int)))<open_.length) <|
    gd (qAh (((open_.getD (Int.toNat ((open_.length:Int) - (1:Int))) (NT.dft [.int .i64,.map])).1) - (1:Int))) <|
    gd ((Int.toNat ((open_.length:Int) - (1:Int)))<open_.length) <|
    gd ((Int.toNat ((open_.length:Int) - (1:Int)))<open_.length) <|
    gd ((Int.toNat ((open_.length:Int) - (1:Int)))<open_.length) <|
    gd ((Int.toNat ((open_.length:Int) - (1:Int)))<(open_.set (Int.toNat ((open_.length:Int) - (1:Int))) ((((open_.getD (Int.toNat ((open_.length:Int) - (1:Int))) (NT.dft [.int .i64,.map])).1) - (1:Int)),(open_.getD (Int.toNat ((open_.length:Int) - (1:Int))) (NT.dft [.int .i64,.map])).2)).length) <|
    gd ((Int.toNat ((open_.length:Int) - (1:Int)))<(open_.set (Int.toNat ((open_.length:Int) - (1:Int))) ((((open_.getD (Int.toNat ((open_.length:Int) - (1:Int))) (NT.dft [.int .i64,.map])).1) - (1:Int)),(open_.getD (Int.toNat ((open_.length:Int) - (1:Int))) (NT.dft [.int .i64,.map])).2)).length) <|
    gd ((Int.toNat ((open_.length:Int) - (1:Int)))<(open_.set (Int.toNat ((open_.length:Int) - (1:Int))) ((((open_.getD (Int.toNat ((open_.length:Int) - (1:Int))) (NT.dft [.int .i64,.map])).1) - (1:Int)),(open_.getD (Int.toNat ((open_.length:Int) - (1:Int))) (NT.dft [.int .i64,.map])).2)).length) <|
    gd ((Int.toNat ((open_.length:Int) - (1:Int)))<(open_.set (Int.toNat ((open_.length:Int) - (1:Int))) ((((open_.getD (Int.toNat ((open_.length:Int) - (1:Int))) (NT.dft [.int .i64,.map])).1) - (1:Int)),(open_.getD (Int.toNat ((open_.length:Int) - (1:Int))) (NT.dft [.int .i64,.map])).2)).length) <|
    gd ((((((open_.set (Int.toNat ((open_.length:Int) - (1:Int))) ((((open_.getD (Int.toNat ((open_.length:Int) - (1:Int))) (NT.dft [.int .i64,.map])).1) - (1:Int)),(open_.getD (Int.toNat ((open_.length:Int) - (1:Int))) (NT.dft [.int .i64,.map])).2)).getD (Int.toNat ((open_.length:Int) - (1:Int))) (NT.dft [.int .i64,.map])).2.1).isNone) && (!decide (((x10_.getD (Int.toNat x12_) (ET.dft .node)).key)=(⟨#[]⟩:BA))))=false→(Int.toNat ((open_.length:Int) - (1:Int)))<(open_.set (Int.toNat ((open_.length:Int) - (1:Int))) ((((open_.getD (Int.toNat ((open_.length:Int) - (1:Int))) (NT.dft [.int .i64,.map])).1) - (1:Int)),(open_.getD (Int.toNat ((open_.length:Int) - (1:Int))) (NT.dft [.int .i64,.map])).2)).length) <|
    gd ((((((open_.set (Int.toNat ((open_.length:Int) - (1:Int))) ((((open_.getD (Int.toNat ((open_.length:Int) - (1:Int))) (NT.dft [.int .i64,.map])).1) - (1:Int)),(open_.getD (Int.toNat ((open_.length:Int) - (1:Int))) (NT.dft [.int .i64,.map])).2)).getD (Int.toNat ((open_.length:Int) - (1:Int))) (NT.dft [.int .i64,.map])).2.1).isNone) && (!decide (((x10_.getD (Int.toNat x12_) (ET.dft .node)).key)=(⟨#[]⟩:BA))))=false→(Int.toNat ((open_.length:Int) - (1:Int)))<(open_.set (Int.toNat ((open_.length:Int) - (1:Int))) ((((open_.getD (Int.toNat ((open_.length:Int) - (1:Int))) (NT.dft [.int .i64,.map])).1) - (1:Int)),(open_.getD (Int.toNat ((open_.length:Int) - (1:Int))) (NT.dft [.int .i64,.map])).2)).length) <|
    gd ((((((open_.set (Int.toNat ((open_.length:Int) - (1:Int))) ((((open_.getD (Int.toNat ((open_.length:Int) - (1:Int))) (NT.dft [.int .i64,.map])).1) - (1:Int)),(open_.getD (Int.toNat ((open_.length:Int) - (1:Int))) (NT.dft [.int .i64,.map])).2)).getD (Int.toNat ((open_.length:Int) - (1:Int))) (NT.dft [.int .i64,.map])).2.1).isNone) && (!decide (((x10_.getD (Int.toNat x12_) (ET.dft .node)).key)=(⟨#[]⟩:BA))))=false→(Int.toNat ((open_.length:Int) - (1:Int)))<(open_.set (Int.toNat ((open_.length:Int) - (1:Int))) ((((open_.getD (Int.toNat ((open_.length:Int) - (1:Int))) (NT.dft [.int .i64,.map])).1) - (1:Int)),(open_.getD (Int.toNat ((open_.length:Int) - (1:Int))) (NT.dft [.int .i64,.map])).2)).length) <|
    gd ((((((open_.set (Int.toNat ((open_.length:Int) - (1:Int))) ((((open_.getD (Int.toNat ((open_.length:Int) - (1:Int))) (NT.dft [.int .i64,.map])).1) - (1:Int)),(open_.getD (Int.toNat ((open_.length:Int) - (1:Int))) (NT.dft [.int .i64,.map])).2)).getD (Int.toNat ((open_.length:Int) - (1:Int))) (NT.dft [.int .i64,.map])).2.1).isNone) && (!decide (((x10_.getD (Int.toNat x12_) (ET.dft .node)).key)=(⟨#[]⟩:BA))))=false→(Int.toNat ((open_.length:Int) - (1:Int)))<(open_.set (Int.toNat ((open_.length:Int) - (1:Int))) ((((open_.getD (Int.toNat ((open_.length:Int) - (1:Int))) (NT.dft [.int .i64,.map])).1) - (1:Int)),(open_.getD (Int.toNat ((open_.length:Int) - (1:Int))) (NT.dft [.int .i64,.map])).2)).length) <|
    (qBb ((x10_.getD (Int.toNat x12_) (ET.dft .node)).key)).bind fun r18 =>
    bif (((((((open_.set (Int.toNat ((open_.length:Int) - (1:Int))) ((((open_.getD (Int.toNat ((open_.length:Int) - (1:Int))) (NT.dft [.int .i64,.map])).1) - (1:Int)),(open_.getD (Int.toNat ((open_.length:Int) - (1:Int))) (NT.dft [.int .i64,.map])).2)).getD (Int.toNat ((open_.length:Int) - (1:Int))) (NT.dft [.int .i64,.map])).2.1).isNone) && (!decide (((x10_.getD (Int.toNat x12_) (ET.dft .node)).key)=(⟨#[]⟩:BA)))) || (decide ((0:Int)<(mget (((open_.set (Int.toNat ((open_.length:Int) - (1:Int))) ((((open_.getD (Int.toNat ((open_.length:Int) - (1:Int))) (NT.dft [.int .i64,.map])).1) - (1:Int)),(open_.getD (Int.toNat ((open_.length:Int) - (1:Int))) (NT.dft [.int .i64,.map])).2)).getD (Int.toNat ((open_.length:Int) - (1:Int))) (NT.dft [.int .i64,.map])).2.1) ((x10_.getD (Int.toNat x12_) (ET.dft .node)).key))))) || (!r18)) then (
     some (.inr (.inl false)))
    else (
     gd ((Int.toNat ((open_.length:Int) - (1:Int)))<(open_.set (Int.toNat ((open_.length:Int) - (1:Int))) ((((open_.getD (Int.toNat ((open_.length:Int) - (1:Int))) (NT.dft [.int .i64,.map])).1) - (1:Int)),(open_.getD (Int.toNat ((open_.length:Int) - (1:Int))) (NT.dft [.int .i64,.map])).2)).length) <|
     gd ((Int.toNat ((open_.length:Int) - (1:Int)))<(open_.set (Int.toNat ((open_.length:Int) - (1:Int))) ((((open_.getD (Int.toNat ((open_.length:Int) - (1:Int))) (NT.dft [.int .i64,.map])).1) - (1:Int)),(open_.getD (Int.toNat ((open_.length:Int) - (1:Int))) (NT.dft [.int .i64,.map])).2)).length) <|
     gd ((Int.toNat ((open_.length:Int) - (1:Int)))<(open_.set (Int.toNat ((open_.length:Int) - (1:Int))) ((((open_.getD (Int.toNat ((open_.length:Int) - (1:Int))) (NT.dft [.int .i64,.map])).1) - (1:Int)),(open_.getD (Int.toNat ((open_.length:Int) - (1:Int))) (NT.dft [.int .i64,.map])).2)).length) <|
     gd ((Int.toNat ((open_.length:Int) - (1:Int)))<(open_.set (Int.toNat ((open_.length:Int) - (1:Int))) ((((open_.getD (Int.toNat ((open_.length:Int) - (1:Int))) (NT.dft [.int .i64,.map])).1) - (1:Int)),(open_.getD (Int.toNat ((open_.length:Int) - (1:Int))) (NT.dft [.int .i64,.map])).2)).length) <|
     bif (((open_.set (Int.toNat ((open_.length:Int) - (1:Int))) ((((open_.getD (Int.toNat ((open_.length:Int) - (1:Int))) (NT.dft [.int .i64,.map])).1) - (1:Int)),(open_.getD (Int.toNat ((open_.length:Int) - (1:Int))) (NT.dft [.int .i64,.map])).2)).getD (Int.toNat ((open_.length:Int) - (1:Int))) (NT.dft [.int .i64,.map])).2.1).isSome then (
      gd ((Int.toNat ((open_.length:Int) - (1:Int)))<(open_.set (Int.toNat ((open_.length:Int) - (1:Int))) ((((open_.getD (Int.toNat ((open_.length:Int) - (1:Int))) (NT.dft [.int .i64,.map])).1) - (1:Int)),(open_.getD (Int.toNat ((open_.length:Int) - (1:Int))) (NT.dft [.int .i64,.map])).2)).length) <|
      gd ((Int.toNat ((open_.length:Int) - (1:Int)))<(open_.set (Int.toNat ((open_.length:Int) - (1:Int))) ((((open_.getD (Int.toNat ((open_.length:Int) - (1:Int))) (NT.dft [.int .i64,.map])).1) - (1:Int)),(open_.getD (Int.toNat ((open_.length:Int) - (1:Int))) (NT.dft [.int .i64,.map])).2)).length) <|
      gd ((Int.toNat ((open_.length:Int) - (1:Int)))<(open_.set (Int.toNat ((open_.length:Int) - (1:Int))) ((((open_.getD (Int.toNat ((open_.length:Int) - (1:Int))) (NT.dft [.int .i64,.map])).1) - (1:Int)),(open_.getD (Int.toNat ((open_.length:Int) - (1:Int))) (NT.dft [.int .i64,.map])).2)).length) <|
      gd ((Int.toNat ((open_.length:Int) - (1:Int)))<(open_.set (Int.toNat ((open_.length:Int) - (1:Int))) ((((open_.getD (Int.toNat ((open_.length:Int) - (1:Int))) (NT.dft [.int .i64,.map])).1) - (1:Int)),(open_.getD (Int.toNat ((open_.length:Int) - (1:Int))) (NT.dft [.int .i64,.map])).2)).length) <|
      gd ((((open_.set (Int.toNat ((open_.length:Int) - (1:Int))) ((((open_.getD (Int.toNat ((open_.length:Int) - (1:Int))) (NT.dft [.int .i64,.map])).1) - (1:Int)),(open_.getD (Int.toNat ((open_.length:Int) - (1:Int))) (NT.dft [.int .i64,.map])).2)).getD (Int.toNat ((open_.length:Int) - (1:Int))) (NT.dft [.int .i64,.map])).2.1).isSome=true) <|
      (zal_p1 ((open_.set (Int.toNat ((open_.length:Int) - (1:Int))) ((((open_.getD (Int.toNat ((open_.length:Int) - (1:Int))) (NT.dft [.int .i64,.map])).1) - (1:Int)),(open_.getD (Int.toNat ((open_.length:Int) - (1:Int))) (NT.dft [.int .i64,.map])).2)).set (Int.toNat ((open_.length:Int) - (1:Int))) (((open_.set (Int.toNat ((open_.length:Int) - (1:Int))) ((((open_.getD (Int.toNat ((open_.length:Int) - (1:Int))) (NT.dft [.int .i64,.map])).1) - (1:Int)),(open_.getD (Int.toNat ((open_.length:Int) - (1:Int))) (NT.dft [.int .i64,.map])).2)).getD (Int.toNat ((open_.length:Int) - (1:Int))) (NT.dft [.int .i64,.map])).1,((mput (((open_.set (Int.toNat ((open_.length:Int) - (1:Int))) ((((open_.getD (Int.toNat ((open_.length:Int) - (1:Int))) (NT.dft [.int .i64,.map])).1) - (1:Int)),(open_.getD (Int.toNat ((open_.length:Int) - (1:Int))) (NT.dft [.int .i64,.map])).2)).getD (Int.toNat ((open_.length:Int) - (1:Int))) (NT.dft [.int .i64,.map])).2.1) ((x10_.getD (Int.toNat x12_) (ET.dft .node)).key) (1:Int)),(((open_.set (Int.toNat ((open_.length:Int) - (1:Int))) ((((open_.getD (Int.toNat ((open_.length:Int) - (1:Int))) (NT.dft [.int .i64,.map])).1) - (1:Int)),(open_.getD (Int.toNat ((open_.length:Int) - (1:Int))) (NT.dft [.int .i64,.map])).2)).getD (Int.toNat ((open_.length:Int) - (1:Int))) (NT.dft [.int .i64,.map])).2).2))) ((x10_.getD (Int.toNat x12_) (ET.dft .node)).kind) ((x10_.getD (Int.toNat x12_) (ET.dft .node)).kids)).bind fun o23=>(Sum.elim (fun (o23_0:Bool) =>
       some (.inr (.inl o23_0))) (fun (o23_1:(List (Int × MapC × Unit))) =>
       gd (qAh (x12_+(1:Int))) <|
       some (.inl ((x12_+(1:Int)),o23_1)))) o23)
     else (
      (zal_p1 (open_.set (Int.toNat ((open_.length:Int) - (1:Int))) ((((open_.getD (Int.toNat ((open_.length:Int) - (1:Int))) (NT.dft [.int .i64,.map])).1) - (1:Int)),(open_.getD (Int.toNat ((open_.length:Int) - (1:Int))) (NT.dft [.int .i64,.map])).2)) ((x10_.getD (Int.toNat x12_) (ET.dft .node)).kind) ((x10_.getD (Int.toNat x12_) (ET.dft .node)).kids)).bind fun o24=>(Sum.elim (fun (o24_0:Bool) =>
       some (.inr (.inl o24_0))) (fun (o24_1:(List (Int × MapC × Unit))) =>
       gd (qAh (x12_+(1:Int))) <|
       some (.inl ((x12_+(1:Int)),o24_1)))) o24)))))
 else (
  some (.inr (.inr open_)))
def zal_p0 (x11_ x12_:Int) (x10_:List Eng.Node) (open_:List (Int × MapC × Unit)):Option (Bool ⊕ ((List (Int × MapC × Unit)))) :=
 qBj (fun x:(Int × (List (Int × MapC × Unit)))=>qCf x11_ x.1 x10_ x.2) (x12_,open_)
def zal_s (v:(List Eng.Node)):Option Bool :=
 (zal_p0 (v.length:Int) (0:Int) v [((1:Int),(none:MapC),())]).bind fun o25=>(Sum.elim (fun (o25_0:Bool) =>
  some o25_0) (fun (o25_1:(List (Int × MapC × Unit))) =>
  some (decide ((o25_1.length:Int)=(0:Int))))) o25
def zal_G:Nat→Option CQ:=tblQ [(78,zan_w),(79,qDy)]
theorem zal_Gok:∀f C,zal_G f=some C→qAe Tryd.prog f C:=qAl ⟨zan_ok,qFz,tV⟩
def zDJS1:=(qAb (dSO 10 (dO 0)) (qAb (dSO 11 dZ) (qAb (dSO 12 dZ) dNil)))
def zDJS2:=(qAb (qCr .node) (qAb (dBag [.int .i64,.map] 101) dNil))
def zal_d3:=(dQS (qAb (dSO 3 (dBsl 1)) zDJS1) zDJS2)
def zal_l3:SubQ:=mkL zal_d3 (fun x=>zal_p3 x.2.2.1) fun x r R kn kx kr=>kx 3 ⟨[sL 3 (.bsl 1),sL 10 (.own 0),sL 11 (.vI x.1.2.2.1),sL 12 (.vI x.1.2.2.2.1)],[],[.view .node x.2.1,.bag [.int .i64,.map] 101 r]⟩
def zal_d2:=(dQS (qAb (dSO 3 (dBsl 1)) zDJS1) zDJS2)
def zal_l2:SubQ:=mkL zal_d2 (fun x=>zal_p2 x.2.2.1) fun x r R kn kx kr=>kn ⟨[sL 3 (.bsl 1),sL 10 (.own 0),sL 11 (.vI x.1.2.2.1),sL 12 (.vI x.1.2.2.2.1)],[],[.view .node x.2.1,.bag [.int .i64,.map] 101 r]⟩
def zal_d1:=(dQS (qAb (dSO 3 (dBsl 1)) (qAb (dSO 5 (dH 2 0)) zDJS1)) (qAb (qCr .node) (qAb (dBag [.int .i64,.map] 101) (qAb (dCells 36 (qAb dZ (qAb dS (qAb dS (qAb dB (qAb dZ (qAb dZ dNil))))))) dNil))))
def zal_l1:SubQ:=mkL zal_d1 (fun x=>zal_p1 x.2.2.1 x.2.2.2.1.1 x.2.2.2.1.2.2.2.2.2.1) fun x r R kn kx kr=>(Sum.elim (fun (r_0:Bool)=>kr ⟨[sL 2 (.vB r_0)],[],[.view .node x.2.1]⟩) (fun (r_1:(List (Int × MapC × Unit)))=>kn ⟨[sL 3 (.bsl 1),sL 10 (.own 0),sL 11 (.vI x.1.2.2.2.1),sL 12 (.vI x.1.2.2.2.2.1)],[],[.view .node x.2.1,.bag [.int .i64,.map] 101 r_1]⟩)) r
def zal_d0:=(dQS (qAb (dSO 3 (dBsl 1)) zDJS1) zDJS2)
def zal_l0:SubQ:=mkL zal_d0 (fun x=>zal_p0 x.1.2.2.1 x.1.2.2.2.1 x.2.1 x.2.2.1) fun x r R kn kx kr=>(Sum.elim (fun (r_0:Bool)=>kr ⟨[sL 2 (.vB r_0)],[],[.view .node x.2.1]⟩) (fun (r_1:(List (Int × MapC × Unit)))=>kx 0 ⟨[sL 3 (.bsl 1)],[],[.view .node x.2.1,.bag [.int .i64,.map] 101 r_1]⟩)) r
def zal_L:Nat→SubQ:=tblL [(3,zal_l3),(2,zal_l2),(1,zal_l1),(0,zal_l0)]
theorem zal_sub3:qBu zal_L zal_G 1 13 120 3 zal_b3:=qA2 (show zal_L 3=zal_l3 from by kernel_rfl) fun x R kn kx kr=>qA0 (step:=fun y=>qEe y) (enc:=fun (y:(List (Int × MapC × Unit)))=>zal_d3.e (x.1,(x.2.1,y,x.2.2.2))) (fun y=>by kernel_rfl) (fun y ki=>by simp only [qEe,-eq_self,qAd,qAg,obA,obS,slL,slR,qAc]; kernel_rfl) x.2.2.1
theorem zal_sub2:qBu zal_L zal_G 1 13 120 2 zal_b2:=qA2 (show zal_L 2=zal_l2 from by kernel_rfl) fun x R kn kx kr=>by
 simp only [zal_p2,-eq_self,qAd,qAg,obA,obS,slL,slR,qAc];kernel_rfl
theorem zal_sub1:qBu zal_L zal_G 1 13 120 1 zal_b1:=qA2 (show zal_L 1=zal_l1 from by kernel_rfl) fun x R kn kx kr=>by
 simp only [zal_p1,-eq_self,qAd,qAg,obA,obS,slL,slR,qAc];kernel_rfl
theorem zal_sub0:qBu zal_L zal_G 1 13 120 0 zal_b0:=qA2 (show zal_L 0=zal_l0 from by kernel_rfl) fun x R kn kx kr=>qA0 (step:=fun y=>qCf x.1.2.2.1 y.1 x.2.1 y.2) (enc:=fun (y:Int × (List (Int × MapC × Unit)))=>zal_d0.e ((x.1.1,x.1.2.1,x.1.2.2.1,y.1,x.1.2.2.2.2),(x.2.1,y.2,x.2.2.2))) (fun y=>by kernel_rfl) (fun y ki=>by simp only [qCf,-eq_self,qAd,qAg,obA,obS,slL,slR,qAc]; kernel_rfl) (x.1.2.2.2.1,x.2.2.1)
theorem zal_subs:qAu zal_L zal_G 1 13 120 zal_q:=qAn (show qAv zal_L zal_G 1 13 120 [(0,zal_b0),(1,zal_b1),(2,zal_b2),(3,zal_b3)] from ⟨zal_sub0,zal_sub1,zal_sub2,zal_sub3,tV⟩)
def zal_da:=(qAb (dVC (dCO (dO 0))) dNil)
def zal_db:=(qAb (qCr .node) dNil)
def zal_c:CS:=mkC zal_da zal_db (fun x y=>zal_s y.1) (fun x y r=>.c (.o (.vB r))) fun x y r=>[.view .node y.1]
theorem zal_val:qAp Tryd.prog 39 zal_c:=qAs zal_chk 13 zal_Gok 1 (fun x=>Nat.le_of_ble_eq_true rfl) (fun y=>rfl) zal_subs fun x y=>by
 simp only [zal_s,-eq_self,qAd,qAg,obA,obS,slL,slR,qAc];kernel_rfl
def zal_w:CQ:=qCc [(0,none,some (.node,36))] (qEg [false] zal_c)
theorem zal_ok:qAe Tryd.prog 39 zal_w:=prep_quiet zal_val
end
instance memDec (s:BA):(l:List BA)→Decidable (s∈l)
 | []=>isFalse (by simp)
 | x::r=>if h:s=x then isTrue (by simp [h]) else match memDec s r with
  | isTrue h2=>isTrue (List.mem_cons_of_mem _ h2)
  | isFalse h2=>isFalse (by simp [h,h2])
theorem plain_j (n:Eng.Node) (hn:OkN n):∃b,zan_s n=some b∧(b=true→0≤n.kids∧(0<n.kids→6≤n.kind)∧n.kind≤7):=by
 have hw1:=whole_j n.text hn.text;have hv1:=p_Valid n.text hn.text;have hu2:qBb n.text=some (Lib.validD n.text.data.toList):=qAa (by have:=hn.text; omega) _;unfold zan_s;have hc:((((decide (n.kind<(1:Int))) || (decide ((7:Int)<n.kind))) || (decide (n.kids<(0:Int)))) || (((decide ((0:Int)<n.kids)) && (!decide (n.kind=(6:Int)))) && (!decide (n.kind=(7:Int))))) =
   ((((decide (n.kind<(1:Int))) || (decide ((7:Int)<n.kind))) || (decide (n.kids<(0:Int)))) || ((decide ((0:Int)<n.kids)) && (decide (n.kind<(6:Int))))):=by
  rw [Bool.eq_iff_iff];simp only [Bool.or_eq_true,Bool.and_eq_true,decide_eq_true_eq,Bool.not_eq_true',decide_eq_false_iff_not];omega
 rw [hc,hw1,hv1,hu2];simp only [obS];cases hd:((((decide (n.kind<(1:Int))) || (decide ((7:Int)<n.kind))) || (decide (n.kids<(0:Int)))) || ((decide ((0:Int)<n.kids)) && (decide (n.kind<(6:Int))))) with
 | true=>exact ⟨false,rfl,fun h=>by cases h⟩
 | false =>
  have hk:0≤n.kids∧(0<n.kids→6≤n.kind)∧n.kind≤7:=by
   simp only [Bool.or_eq_false_iff,Bool.and_eq_false_iff,decide_eq_false_iff_not] at hd;omega
  simp only [cnF];cases decide (n.kind=4) with
  | true =>
   exact ⟨_,rfl,fun _=>hk⟩
  | false =>
   simp only [cnF];cases (n.whole || !decide (n.int=0)) with
   | true=>exact ⟨_,rfl,fun _=>hk⟩
   | false =>
    simp only [cnF];cases decide (n.kind=5) <;> exact ⟨_,rfl,fun _=>hk⟩
noncomputable def pB (n:Eng.Node):Bool:=(zan_s n).getD false
theorem pB_j {n:Eng.Node} (hn:OkN n):zan_s n=some (pB n)∧(pB n=true→0≤n.kids∧(0<n.kids→6≤n.kind)∧n.kind≤7):=by
 obtain ⟨b,h1,h3⟩:=plain_j n hn;have:pB n=b:=by unfold pB; rw [h1]; rfl
 rw [this];exact ⟨h1,h3⟩
noncomputable def okB (obj:Bool) (n:Eng.Node):Bool:=pB n && Lib.validD n.key.data.toList && (obj || decide (n.key=(⟨#[]⟩:BA)))
def keyAt (v:List Eng.Node) (a:Nat):BA:=(v.getD a (ET.dft .node)).key
noncomputable def kidsS (v:List Eng.Node) (one:Nat→Option Nat) (obj:Bool):Nat→Nat→List BA→Option Nat
 | 0,a,_=>some a
 | k+1,a,names =>
  match one a with
  | none=>none
  | some e=>if obj=true∧keyAt v a∈names then none else kidsS v one obj k e (names++[keyAt v a])
noncomputable def oneS (v:List Eng.Node):Nat→Bool→Nat→Option Nat
 | 0,obj,a =>
  match v[a]? with
  | none=>none
  | some n=>if okB obj n=true∧n.kind<6 then some (a+1) else none
 | d+1,obj,a =>
  match v[a]? with
  | none=>none
  | some n=>if okB obj n=true then kidsS v (oneS v d (decide (n.kind=7))) (decide (n.kind=7)) n.kids.toNat (a+1) [] else none
theorem kidsS_le {v:List Eng.Node} {one:Nat→Option Nat} {obj:Bool} (h:∀a e,one a=some e→a<e∧e≤v.length):∀(k a:Nat) (names:List BA) (e:Nat),a≤v.length→kidsS v one obj k a names=some e→a+k≤e∧e≤v.length
 | 0,a,names,e,ha,hk=>by
  cases hk;exact ⟨by omega,ha⟩
 | k+1,a,names,e,ha,hk=>by
  unfold kidsS at hk;cases ho:one a with
  | none=>rw [ho] at hk; cases hk
  | some b =>
   rw [ho] at hk;dsimp only at hk;split at hk
   ·cases hk
   ·have hb:=h a b ho;have:=kidsS_le h k b _ e hb.2 hk;omega
theorem qE2 (v:List Eng.Node):∀(d:Nat) (obj:Bool) (a e:Nat),oneS v d obj a=some e→a<e∧e≤v.length
 | 0,obj,a,e,h=>by
  unfold oneS at h;cases hv:v[a]? with
  | none=>rw [hv] at h; cases h
  | some n =>
   rw [hv] at h;dsimp only at h;have:=(List.getElem?_eq_some_iff.1 hv).1;split at h
   ·cases h; omega
   ·cases h
 | d+1,obj,a,e,h=>by
  unfold oneS at h;cases hv:v[a]? with
  | none=>rw [hv] at h; cases h
  | some n =>
   rw [hv] at h;dsimp only at h;have hlt:=(List.getElem?_eq_some_iff.1 hv).1;split at h
   ·have:=kidsS_le (fun a e=>qE2 v d _ a e) _ _ _ _ (by omega) h;omega
   ·cases h
abbrev Lv:=Int × MapC × Unit
def closeR:List Lv→List Lv
 | []=>[]
 | x::r=>if x.1=0 then closeR r else x::r
def closeS (S:List Lv):List Lv:=(closeR S.reverse).reverse
theorem qFn (B:List Lv) (x:Lv):closeS (B++[x])=if x.1=0 then closeS B else B++[x]:=by
 have e:(B++[x]).reverse=x::B.reverse:=by simp
 unfold closeS;rw [e];by_cases h:x.1=0
 ·rw [if_pos h,closeR,if_pos h]
 ·rw [if_neg h,closeR,if_neg h]; simp
theorem snoc_of (S:List Lv):S=[]∨∃B x,S=B++[x]:=by
 by_cases h:S=[]
 ·exact .inl h
 ·exact .inr ⟨S.dropLast,S.getLast h,(List.dropLast_concat_getLast h).symm⟩
theorem qDz (B:List Lv) (x:Lv):(B++[x]).length=B.length+1:=by simp
theorem snoc_toNat (B:List Lv) (x:Lv):Int.toNat (((B++[x]).length:Int) - 1)=B.length:=by rw [qDz]; omega
theorem snoc_getD (B:List Lv) (x d:Lv):(B++[x]).getD B.length d=x:=by simp [List.getD_eq_getElem?_getD]
theorem snoc_set (B:List Lv) (x y:Lv):(B++[x]).set B.length y=B++[y]:=by simp
theorem snoc_take (B:List Lv) (x:Lv):(B++[x]).take B.length=B:=by simp
theorem p3_step (B:List Lv) (x:Lv) (hB:B.length≤1000):qEe (B++[x])=if x.1=0 then some (.inl B) else some (.inr (B++[x])):=by
 unfold qEe;have hl:=qDz B x;rw [qAa (fun _=>by unfold qAh; omega),qAa (fun _=>by omega),qAa (fun _=>by rw [snoc_toNat]; omega),qAa (fun _=>by rw [snoc_toNat]; omega)];simp only [snoc_toNat,snoc_getD,snoc_take];rw [deT (by omega),Bool.true_and];by_cases h:x.1=0
 ·rw [if_pos h,deT h,cnT,qAa (by unfold qAh; omega),qAa (by omega)]
 ·rw [if_neg h,deF h,cnF]
theorem p3_close:∀(n:Nat) (S:List Lv),S.length≤n→S.length≤1000→zal_p3 S=some (closeS S)
 | n,S,hn,hS=>by
  rcases snoc_of S with rfl | ⟨B,x,rfl⟩
  ·unfold zal_p3;refine qAq ?_;unfold qEe;rw [qAa (fun h=>by simp at h),qAa (fun h=>by simp at h),qAa (fun h=>by simp at h),qAa (fun h=>by simp at h)];rfl
  ·rw [qDz] at hn hS;have hst:=p3_step B x (by omega);rw [qFn];cases n with
   | zero=>omega
   | succ n =>
    by_cases h:x.1=0
    ·rw [if_pos h] at hst ⊢;rw [←p3_close n B (by omega) (by omega)];unfold zal_p3;exact qAt hst
    ·rw [if_neg h] at hst ⊢;unfold zal_p3;exact qAq hst
theorem p2_close (S:List Lv) (hS:S.length≤1000):zal_p2 S=some (closeS S):=by
 unfold zal_p2;rw [p3_close S.length S (Nat.le_refl _) hS];rfl
theorem p1_is (S:List Lv) (hS:S.length≤900) (kind kids:Int):zal_p1 S kind kids =
  if kind=6∨kind=7 then (if 32<S.length then some (.inl false) else some (.inr (closeS (S++[(kids,if kind=7 then some [] else none,())])))) else some (.inr (closeS S)):=by
 unfold zal_p1;by_cases h:kind=6∨kind=7
 ·have:((decide (kind=(6:Int))) || (decide (kind=(7:Int))))=true:=by simpa using h
  rw [if_pos h,this,cnT];by_cases h32:32<S.length
  ·rw [if_pos h32,deT (by omega),cnT]
  ·rw [if_neg h32,deF (by omega),cnF];by_cases h7:kind=7
   ·rw [deT h7,cnT,qAa (by simp; omega),p2_close _ (by simp; omega),if_pos h7]; rfl
   ·rw [deF h7,cnF,qAa (by simp; omega),p2_close _ (by simp; omega),if_neg h7]; rfl
 ·have:((decide (kind=(6:Int))) || (decide (kind=(7:Int))))=false:=by
   rw [Bool.or_eq_false_iff,decide_eq_false_iff_not,decide_eq_false_iff_not];omega
  rw [if_neg h,this,cnF,p2_close _ (by omega)];rfl
theorem p0_step {v:List Eng.Node} (hv:OkL v) {a:Nat} {n:Eng.Node} (hn:v[a]?=some n) (B:List Lv) (l:Int) (nm:MapC) (hB:B.length≤40) (hl : -9223372036854775807≤l∧l≤9223372036854775807) :
  qCf (v.length:Int) (a:Int) v (B++[(l,nm,())]) =
   if (pB n && !((nm.isNone && !decide (n.key=(⟨#[]⟩:BA))) || decide (0<mget nm n.key) || !Lib.validD n.key.data.toList))=true then
    (zal_p1 (B++[(l - 1,mput nm n.key 1,())]) n.kind n.kids).bind fun o=>Sum.elim (fun b=>some (.inr (.inl b))) (fun S'=>some (.inl (((a+1:Nat):Int),S'))) o
   else some (.inr (.inl false)):=by
 have hlt:=(List.getElem?_eq_some_iff.1 hn).1;have hmem:n∈v:=by
  obtain ⟨h1,h2⟩:=List.getElem?_eq_some_iff.1 hn;rw [←h2]; exact List.getElem_mem h1
 have hget:=nd_get hn;have hlen:=hv.1;have hok:=hv.2 n hmem;have hsl:∀x:Lv,(B++[x]).length=B.length+1:=qDz B;have g1:∀ {R:Type} (k:Option R) (x:Lv),gd (qAh (((B++[x]).length:Int) - 1)) k=k:=fun k x=>qAa (by unfold qAh; rw [hsl]; omega) k
 have g2:∀ {R:Type} (k:Option R) (x:Lv),gd (0≤(((B++[x]).length:Int) - 1)∧(((B++[x]).length:Int) - 1)<(B++[x]).length) k=k:=fun k x=>qAa (by rw [hsl]; omega) k
 have g3:∀ {R:Type} (k:Option R) (x:Lv),gd (B.length<(B++[x]).length) k=k:=fun k x=>qAa (by rw [hsl]; omega) k
 have g4:∀ {R:Type} (k:Option R) (x:Lv) (c:Bool),gd (c=false→B.length<(B++[x]).length) k=k:=fun k x c=>qAa (fun _=>by rw [hsl]; omega) k
 have g5:∀ {R:Type} (k:Option R),gd (qAh (l - 1)) k=k:=fun k=>qAa (by unfold qAh; omega) k
 have g6:∀ {R:Type} (k:Option R),gd (qAh ((a:Int)+1)) k=k:=fun k=>qAa (by unfold qAh; omega) k
 have hvs:qBb n.key=some (Lib.validD n.key.data.toList):=qAa (by have:=hok.key; omega) _;unfold qCf;rw [deT (by omega),cnT,qAa (by omega),qAa (by omega),deF (by rw [hsl]; omega),cnF,Int.toNat_natCast,hget,(pB_j hok).1,obS];cases hp:pB n with
 | false=>rfl
 | true =>
  simp only [Bool.not_true,cnF,snoc_toNat,snoc_getD,snoc_set,g1,g2,g3,g4,g5,hvs,obS,Bool.true_and];cases hc:((nm.isNone && !decide (n.key=(⟨#[]⟩:BA))) || decide (0<mget nm n.key) || !Lib.validD n.key.data.toList) with
  | true=>rw [cnT]; rfl
  | false =>
   rw [cnF];simp only [Bool.not_false,if_true];cases nm with
   | none =>
    simp only [Option.isSome_none,cnF,g6];rfl
   | some m =>
    simp only [Option.isSome_some,cnT,g6,qAa];rfl
noncomputable def resS (v:List Eng.Node) (a:Nat) (S:List Lv):Option Bool :=
 (zal_p0 (v.length:Int) (a:Int) v S).bind fun o=>some (Sum.elim id (fun S=>decide ((S.length:Int)=0)) o)
theorem resS_next {v:List Eng.Node} {a:Nat} {S S':List Lv} (h:qCf (v.length:Int) (a:Int) v S=some (.inl (((a+1:Nat):Int),S'))):resS v a S=resS v (a+1) S':=by
 unfold resS zal_p0;rw [qAt h]
theorem qFr {v:List Eng.Node} {a:Nat} {S:List Lv} {o:Bool ⊕ List Lv} (h:qCf (v.length:Int) (a:Int) v S=some (.inr o)):resS v a S=some (Sum.elim id (fun S=>decide ((S.length:Int)=0)) o):=by
 unfold resS zal_p0;rw [qAq h];rfl
theorem resS_end {v:List Eng.Node} {a:Nat} (S:List Lv) (h:v.length≤a):resS v a S=some (decide ((S.length:Int)=0)):=by
 refine qFr (o:=.inr S) ?_;unfold qCf;rw [deF (by omega),cnF]
structure NmR (obj:Bool) (nm:MapC) (names:List BA):Prop where
 some_:nm.isSome=obj
 mem:∀s,obj=true→(0<mget nm s↔s∈names)
theorem mfind_mset (l:List (BA × Int)) (s t:BA) (x:Int):mfind (mset l s x) t=if t=s then some x else mfind l t:=by
 induction l with
 | nil =>
  show (bif decide (t=s) then some x else none)=_;by_cases h:t=s
  ·rw [if_pos h,deT h]; rfl
  ·rw [if_neg h,deF h]; rfl
 | cons y r ih =>
  unfold mset;by_cases hs:s=y.1
  ·rw [deT hs,cnT];show (bif decide (t=s) then some x else mfind r t)=_;by_cases h:t=s
   ·rw [if_pos h,deT h]; rfl
   ·rw [if_neg h,deF h,cnF];show mfind r t=(bif decide (t=y.1) then some y.2 else mfind r t);rw [deF (by rw [←hs]; exact h),cnF]
  ·rw [deF hs,cnF];unfold mfind;rw [ih];by_cases hy:t=y.1
   ·rw [deT hy,cnT,cnT,if_neg (by rw [hy]; exact fun h=>hs h.symm)]
   ·rw [deF hy,cnF,cnF]
theorem NmR.put {obj:Bool} {nm:MapC} {names:List BA} (h:NmR obj nm names) (s:BA):NmR obj (mput nm s 1) (names++[s]):=by
 cases nm with
 | none =>
  refine ⟨h.some_,fun t ht=>?_⟩;have:=h.some_;rw [ht] at this;cases this
 | some l =>
  refine ⟨h.some_,fun t ht=>?_⟩;have h2:=h.mem t ht;show 0<(mfind (mset l s 1) t).getD 0↔_;rw [mfind_mset,List.mem_append,List.mem_singleton];by_cases hts:t=s
  ·rw [if_pos hts];exact ⟨fun _=>.inr hts,fun _=>by decide⟩
  ·rw [if_neg hts];exact ⟨fun h=>.inl (h2.1 h),fun h=>h2.2 (h.resolve_right hts)⟩
def OneSim (v:List Eng.Node) (d:Nat):Prop:=∀(B:List Lv) (l:Int) (nm:MapC) (obj:Bool) (names:List BA) (a:Nat),B.length+1+d=33→1≤l∧l≤9223372036854775807→NmR obj nm names →
 resS v a (B++[(l,nm,())])=match oneS v d obj a with
  | none=>some false
  | some e=>if obj=true∧keyAt v a∈names then some false else resS v e (closeS (B++[(l - 1,mput nm (keyAt v a) 1,())]))
theorem kids_sim {v:List Eng.Node} {d:Nat} (hA:OneSim v d) (B:List Lv) (obj:Bool) (hB:B.length+1+d=33):∀(k a:Nat) (nm:MapC) (names:List BA),((k+1:Nat):Int)≤9223372036854775807→NmR obj nm names →
  resS v a (B++[(((k+1:Nat):Int),nm,())])=match kidsS v (oneS v d obj) obj (k+1) a names with
   | none=>some false
   | some e=>resS v e (closeS B):=by
 have key:∀(k a:Nat) (nm:MapC) (names:List BA) (l:Int),l=(k:Int)+1→(k:Int)≤9000000000000000000+223372036854775806→NmR obj nm names →
   resS v a (B++[(l,nm,())])=match kidsS v (oneS v d obj) obj (k+1) a names with
    | none=>some false
    | some e=>resS v e (closeS B):=by
  intro k;induction k with
  | zero =>
   intro a nm names l hl hk hnm;rw [hA B _ nm obj names a hB (by omega) hnm];unfold kidsS;cases ho:oneS v d obj a with
   | none=>rfl
   | some e =>
    dsimp only;by_cases hd:obj=true∧keyAt v a∈names
    ·rw [if_pos hd,if_pos hd]
    ·rw [if_neg hd,if_neg hd,qFn,if_pos (by show l - 1=0; omega)];rfl
  | succ k ih =>
   intro a nm names l hl hk hnm;rw [hA B _ nm obj names a hB (by omega) hnm];unfold kidsS;cases ho:oneS v d obj a with
   | none=>rfl
   | some e =>
    dsimp only;by_cases hd:obj=true∧keyAt v a∈names
    ·rw [if_pos hd,if_pos hd]
    ·rw [if_neg hd,if_neg hd,qFn,if_neg (by show ¬(l - 1=0); omega)];exact ih e _ _ (l - 1) (by omega) (by omega) (hnm.put _)
 intro k a nm names hk hnm;exact key k a nm names _ (by omega) (by omega) hnm
theorem one_sim {v:List Eng.Node} (hv:OkL v):∀d:Nat,d≤32→OneSim v d:=by
 intro d;induction d with
 | zero =>
  intro hd B l nm obj names a hB hl hnm;by_cases ha:a<v.length
  ·obtain ⟨n,hn,hmem,hget⟩:=nd_some ha;have hk:keyAt v a=n.key:=by unfold keyAt; rw [hget]
   have hst:=p0_step hv hn B l nm (by omega) (by omega);have hpp:=(pB_j (hv.2 n hmem)).2;unfold oneS;rw [hn];dsimp only;rw [hk];have hcond:(pB n && !((nm.isNone && !decide (n.key=(⟨#[]⟩:BA))) || decide (0<mget nm n.key) || !Lib.validD n.key.data.toList))=(okB obj n && !(obj && decide (n.key∈names))):=by
    unfold okB;rw [←hnm.some_];cases hnn:nm with
    | none =>
     have:mget (none:MapC) n.key=0:=rfl;rw [this];cases pB n <;> cases Lib.validD n.key.data.toList <;> cases decide (n.key=(⟨#[]⟩:BA)) <;> rfl
    | some m =>
     have hm:=hnm.mem n.key (by rw [←hnm.some_,hnn]; rfl);rw [hnn] at hm;rw [show decide (0<mget (some m) n.key)=decide (n.key∈names) from decide_eq_decide.2 hm];cases pB n <;> cases Lib.validD n.key.data.toList <;> cases decide (n.key=(⟨#[]⟩:BA)) <;> cases decide (n.key∈names) <;> rfl
   rw [hcond] at hst;cases hok:okB obj n with
   | false =>
    rw [hok,if_neg (by simp)] at hst;rw [qFr hst,if_neg (fun h=>by cases h.1)];rfl
   | true =>
    by_cases hdup:obj=true∧n.key∈names
    ·rw [hok,if_neg (by simp [hdup.1,hdup.2])] at hst;rw [qFr hst];split <;> first | rfl | (rw [if_pos hdup]; rfl)
    ·rw [hok,if_pos (by simp only [Bool.true_and,Bool.not_eq_true',Bool.and_eq_false_iff,decide_eq_false_iff_not]; cases obj <;> simp_all),p1_is _ (by rw [qDz]; omega)] at hst
     have hpb:pB n=true:=by unfold okB at hok; simp only [Bool.and_eq_true] at hok; exact hok.1.1
     have hz:=hpp hpb;by_cases h6:n.kind<6
     ·rw [if_neg (by omega)] at hst;rw [if_pos ⟨rfl,h6⟩,resS_next hst];dsimp only;rw [if_neg hdup]
     ·rw [if_pos (by omega),if_pos (by rw [qDz]; omega)] at hst;rw [if_neg (fun h=>h6 h.2),qFr hst];rfl
  ·rw [resS_end _ (by omega),qDz];unfold oneS;rw [List.getElem?_eq_none (by omega)];dsimp only;rw [deF (by omega)]
 | succ d ih =>
  intro hd B l nm obj names a hB hl hnm;by_cases ha:a<v.length
  ·obtain ⟨n,hn,hmem,hget⟩:=nd_some ha;have hk:keyAt v a=n.key:=by unfold keyAt; rw [hget]
   have hst:=p0_step hv hn B l nm (by omega) (by omega);have hpp:=(pB_j (hv.2 n hmem)).2;have hki:=(hv.2 n hmem).kids;unfold qAh at hki;unfold oneS;rw [hn];dsimp only;rw [hk];have hcond:(pB n && !((nm.isNone && !decide (n.key=(⟨#[]⟩:BA))) || decide (0<mget nm n.key) || !Lib.validD n.key.data.toList))=(okB obj n && !(obj && decide (n.key∈names))):=by
    unfold okB;rw [←hnm.some_];cases hnn:nm with
    | none =>
     have:mget (none:MapC) n.key=0:=rfl;rw [this];cases pB n <;> cases Lib.validD n.key.data.toList <;> cases decide (n.key=(⟨#[]⟩:BA)) <;> rfl
    | some m =>
     have hm:=hnm.mem n.key (by rw [←hnm.some_,hnn]; rfl);rw [hnn] at hm;rw [show decide (0<mget (some m) n.key)=decide (n.key∈names) from decide_eq_decide.2 hm];cases pB n <;> cases Lib.validD n.key.data.toList <;> cases decide (n.key=(⟨#[]⟩:BA)) <;> cases decide (n.key∈names) <;> rfl
   rw [hcond] at hst;cases hok:okB obj n with
   | false =>
    rw [hok,if_neg (by simp)] at hst;rw [qFr hst,if_neg (fun h=>by cases h)];rfl
   | true =>
    rw [if_pos rfl];by_cases hdup:obj=true∧n.key∈names
    ·rw [hok,if_neg (by simp [hdup.1,hdup.2])] at hst;rw [qFr hst];split <;> first | rfl | (rw [if_pos hdup]; rfl)
    ·rw [hok,if_pos (by simp only [Bool.true_and,Bool.not_eq_true',Bool.and_eq_false_iff,decide_eq_false_iff_not]; cases obj <;> simp_all),p1_is _ (by rw [qDz]; omega)] at hst
     have hpb:pB n=true:=by unfold okB at hok; simp only [Bool.and_eq_true] at hok; exact hok.1.1
     have hz:=hpp hpb;simp only [if_neg hdup];by_cases h6:n.kind<6
     ·rw [if_neg (by omega)] at hst;rw [show n.kids.toNat=0 by omega,resS_next hst];rfl
     ·rw [if_pos (by omega),if_neg (by rw [qDz]; omega)] at hst;rw [resS_next hst,qFn];obtain ⟨kk,hkk⟩:=Int.eq_ofNat_of_zero_le hz.1;rw [hkk,show ((kk:Int)).toNat=kk from rfl];cases kk with
      | zero =>
       rw [if_pos (by rfl)];rfl
      | succ kk =>
       rw [if_neg (by show ¬((((kk+1:Nat)):Int)=0); omega)];have:=kids_sim (ih (by omega)) (B++[(l - 1,mput nm n.key 1,())]) (decide (n.kind=7)) (by rw [qDz]; omega) kk (a+1) (if n.kind=7 then some [] else none) [] (by omega)
        ⟨by by_cases h7:n.kind=7 <;> simp [h7],fun s hs=>by
         rw [if_pos (of_decide_eq_true hs)];exact ⟨fun h=>absurd (show (0:Int)<0 from h) (by decide),fun h=>(by cases h)⟩⟩
       exact this
  ·rw [resS_end _ (by omega),qDz];unfold oneS;rw [List.getElem?_eq_none (by omega)];dsimp only;rw [deF (by omega)]
theorem prog_Shaped {v:List Eng.Node} (hv:OkL v):zal_s v=some (decide (oneS v 32 false 0=some v.length)):=by
 have h0:zal_s v=resS v 0 [((1:Int),(none:MapC),())]:=by
  unfold zal_s resS;rw [show ((0:Nat):Int)=0 from rfl];congr 1
  funext o
  cases o <;> rfl
 rw [h0];have:=one_sim hv 32 (Nat.le_refl _) [] 1 none false [] 0 rfl (by omega) ⟨rfl,fun s h=>by cases h⟩;rw [List.nil_append] at this;rw [this];cases ho:oneS v 32 false 0 with
 | none=>simp
 | some e =>
  dsimp only;have he:=qE2 v 32 false 0 e ho;rw [if_neg (fun h=>by cases h.1)];have hc:closeS ([]++[((1:Int) - 1,mput none (keyAt v 0) 1,())])=[]:=by
   rw [qFn,if_pos (by rfl)]; rfl
  rw [hc];by_cases hl:e<v.length
  ·rw [qFr (o:=.inl false)]
   ·rw [deF (by simp; omega)]; rfl
   ·unfold qCf;rw [deT (by omega),cnT,qAa (by omega),qAa (by omega)];rfl
  ·have:e=v.length:=by omega
   rw [resS_end _ (by omega),this];simp
end Go.Proofs.YtdcoiccdbgcpaaaDoor
