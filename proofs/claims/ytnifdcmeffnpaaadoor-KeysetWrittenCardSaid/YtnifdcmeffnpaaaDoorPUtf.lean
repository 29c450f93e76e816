/-
  Texts of a claim.
-/
import Derived.Lib.ValidLaws
import Derived.Lib.DecodeNEq
import Derived.Test.YtnifdcmeffnpaaaDoorEngO
import Derived.Test.YtnifdcmeffnpaaaDoorProg
import Derived.Test.YtnifdcmeffnpaaaDoorUtf8
import Derived.Test.YtnifdcmeffnpaaaDoorGC
import Derived.Test.YtnifdcmeffnpaaaDoorEngH
namespace Go.Proofs.YtnifdcmeffnpaaaDoor
open Go.Eng
set_option linter.unusedVariables false
set_option linter.unusedSimpArgs false
set_option maxRecDepth 100000
noncomputable section
def zao_q:IQ:=(.seq (rg 2 [oP 1 (.box 34 6 t0),oP 2 (.mv vF)]) (.seq (.block 0 (.seq (rg 5 [oP 6 (.faddr 0 t1),oP 7 (.load none t6),oP 8 (.bi .lss t7 (vI 1)),oM 9 t8,oE 10 (.faddr 0 t1) 9,oE 11 (.load none t10) 9,oE 12 (.bi .gtr t11 (vI 7)) 9,oP 13 (.pick t9 vT t12),oM 14 t13,oE 15 (.faddr 5 t1) 14,oE 16 (.load none t15) 14,oE 17 (.bi .lss t16 (vI 0)) 14,oP 18 (.pick t14 vT t17),oM 19 t18,oE 20 (.faddr 5 t1) 19,oE 21 (.load none t20) 19,oE 22 (.bi .gtr t21 (vI 0)) 19,oE 23 (.mv t22) 19,oF 24 (.faddr 0 t1) 23,oF 25 (.load none t24) 23,oF 26 (.bi .neq t25 (vI 6)) 23,oE 27 (.pick t23 t26 vF) 19,oE 28 (.mv t27) 19,oF 29 (.faddr 0 t1) 28,oF 30 (.load none t29) 28,oF 31 (.bi .neq t30 (vI 7)) 28,oE 32 (.pick t28 t31 vF) 19,oP 33 (.pick t19 vT t32),oM 5 t33]) (.cond t5 (.seq (rg 2 [oP 2 (.mv vF)]) (.cn [2] .ret)) (.seq (rg 34 [oP 35 (.faddr 0 t1),oP 36 (.load none t35),oP 37 (.bi .eql t36 (vI 4)),oM 34 t37]) (.cond t34 (.seq (rg 4 [oP 39 (.faddr 2 t1),oP 40 (.load none t39),oP 41 (.call 61 [t40]),oM 38 t41,oP 42 (.extract t38 0),oP 43 (.extract t38 1),oM 3 t42,oM 4 t43]) (.seq (rg 2 [oP 44 (.faddr 2 t1),oP 45 (.load none t44),oP 46 (.call 62 [t45]),oM 47 t46,oF 48 (.faddr 3 t1) 47,oF 49 (.load none t48) 47,oF 50 (.mv t4) 47,oF 51 (.beq false t49 t50) 47,oP 52 (.pick t47 t51 vF),oM 53 t52,oF 54 (.faddr 4 t1) 53,oF 55 (.load none t54) 53,oF 56 (.mv t3) 53,oF 57 (.bi .eql t55 t56) 53,oP 58 (.pick t53 t57 vF),oM 2 t58]) (.cn [2] .ret))) (.seq (rg 59 [oP 60 (.faddr 3 t1),oP 61 (.load none t60),oM 62 t61,oE 63 (.faddr 4 t1) 62,oE 64 (.load none t63) 62,oE 65 (.bi .neq t64 (vI 0)) 62,oP 66 (.pick t62 vT t65),oM 59 t66]) (.cond t59 (.seq (rg 2 [oP 2 (.mv vF)]) (.cn [2] .ret)) (.seq (rg 67 [oP 68 (.faddr 0 t1),oP 69 (.load none t68),oP 70 (.bi .eql t69 (vI 5)),oM 67 t70]) (.cond t67 (.seq (rg 2 [oP 71 (.faddr 2 t1),oP 72 (.load none t71),oP 73 (.call 49 [t72]),oM 2 t73]) (.cn [2] .ret)) .skip))))))))) (.seq (rg 2 [oP 74 (.faddr 2 t1),oP 75 (.load none t74),oP 76 (.bi .eql t75 (.v (.string ⟨#[]⟩))),oM 2 t76]) (.cn [2] .ret))))
theorem zao_chk:chk Tryd.prog 48 []=some (zao_q.erase,[.tmp 2],77):=by kernel_rfl
def zao_s (n:Eng.Node):Option Bool :=
 bif ((((decide (n.kind<(1:Int))) || (decide ((7:Int)<n.kind))) || (decide (n.kids<(0:Int)))) || (((decide ((0:Int)<n.kids)) && (!decide (n.kind=(6:Int)))) && (!decide (n.kind=(7:Int))))) then (
  some false)
 else (
  bif decide (n.kind=(4:Int)) then (
   (zab_s n.text).bind fun r1 =>
   (zaa_s n.text).bind fun r2 =>
   some ((r2 && (n.whole == r1.2)) && (decide (n.int=r1.1))))
  else (
   bif (n.whole || (!decide (n.int=(0:Int)))) then (
    some false)
   else (
    bif decide (n.kind=(5:Int)) then (
     (qBd n.text).bind fun r3 =>
     some r3)
    else (
     some (decide (n.text=(⟨#[]⟩:BA)))))))
def zao_G:Nat→Option CQ:=tblQ [(61,zab_w),(62,zaa_w),(49,qDr)]
theorem zao_Gok:∀f C,zao_G f=some C→qAe Tryd.prog f C:=qAi ⟨zab_ok,zaa_ok,qFe,tV⟩
def zao_L:Nat→SubQ:=tblL []
theorem zao_subs:qAo zao_L zao_G 0 5 77 zao_q:=qAk (show qAr zao_L zao_G 0 5 77 [] from tV)
def zao_da:=(qAb (dVC (dCA (qAb dZ (qAb dS (qAb dS (qAb dB (qAb dZ (qAb dZ dNil)))))))) dNil)
def zao_db:=(dNil:Dec Unit (List SB))
def zao_c:CS:=mkC zao_da zao_db (fun x y=>zao_s (⟨x.1.1,x.1.2.1,x.1.2.2.1,x.1.2.2.2.1,x.1.2.2.2.2.1,x.1.2.2.2.2.2.1⟩:Eng.Node)) (fun x y r=>.c (.o (.vB r))) fun x y r=>[]
theorem zao_val:qAl Tryd.prog 48 zao_c:=qAn zao_chk 5 zao_Gok 0 (fun x=>Nat.le_of_ble_eq_true rfl) (fun y=>rfl) zao_subs fun x y=>by
 simp only [zao_s,-eq_self,qAc,qAf,obA,obS,slL,slR,qAd];kernel_rfl
def zao_w:CQ:=qCu [] zao_c
theorem zao_ok:qAe Tryd.prog 48 zao_w:=qAx zao_val
def zam_b3:IQ:=(.loop [3,10,11,12] (.seq (.seq (rg 110 [oM 98 t3,oP 99 (.len t98),oP 100 (.bi .gtr t99 (vI 0)),oM 101 t100,oF 102 (.mv t3) 101,oF 103 (.mv t3) 101,oF 104 (.len t103) 101,oF 105 (.bi .sub t104 (vI 1)) 101,oF 106 (.iaddr 2 t102 t105) 101,oF 107 (.faddr 0 t106) 101,oF 108 (.load none t107) 101,oF 109 (.bi .eql t108 (vI 0)) 101,oP 110 (.pick t101 t109 vF)]) (.cond t110 .skip (.cn [3,10,11,12] (.exit 3)))) (.block 4 (rg 3 [oM 111 t3,oM 112 t3,oP 113 (.len t112),oP 114 (.bi .sub t113 (vI 1)),oP 115 (.sub (some 2) t111 none (some t114)),oM 3 t115]))))
def zam_b2:IQ:=(.join [] [3,10,11,12] (.block 3 (.cn [3,10,11,12] (.sub 3 zam_b3))))
def zam_b1:IQ:=(.join [] [3,10,11,12] (.seq (.seq (rg 82 [oP 75 (.faddr 0 t5),oP 76 (.load none t75),oP 77 (.bi .eql t76 (vI 6)),oM 78 t77,oE 79 (.faddr 0 t5) 78,oE 80 (.load none t79) 78,oE 81 (.bi .eql t80 (vI 7)) 78,oP 82 (.pick t78 vT t81)]) (.cond t82 (.seq (.seq (rg 85 [oM 83 t3,oP 84 (.len t83),oP 85 (.bi .gtr t84 (vI 32))]) (.cond t85 (.seq (rg 2 [oP 2 (.mv vF)]) (.cn [2] .ret)) .skip)) (.seq (rg 0 [oP 86 (.faddr 5 t5),oP 87 (.load none t86),oP 88 (.build [.int .i64 0,.map none] [(0,1,t87)]),oP 7 (.alloc 96 [.int .i64 0,.map none]),oN (.store 2 t7 t88)]) (.seq (.seq (rg 91 [oP 89 (.faddr 0 t5),oP 90 (.load none t89),oP 91 (.bi .eql t90 (vI 7))]) (.cond t91 (rg 0 [oP 92 (.ext .mkmap []),oP 93 (.faddr 1 t7),oN (.store 1 t93 t92)]) .skip)) (rg 3 [oM 94 t3,oP 95 (.load (some 2) t7),oP 96 (.bslice 96 2 1 [.int .i64 0,.map none] [(0,t95)]),oP 97 (.append 96 2 16 [.int .i64 0,.map none] t94 t96),oM 3 t97])))) .skip)) (.cn [3,10,11,12] (.sub 2 zam_b2))))
def zam_b0:IQ:=(.loop [3,10,11,12] (.seq (rg 13 [oP 13 (.bi .lss t12 t11)]) (.seq (.cond t13 .skip (.cn [3] (.exit 0))) (.seq (.block 1 (.seq (rg 0 [oP 14 (.iaddr 6 t10 t12),oP 15 (.load (some 6) t14),oP 5 (.alloc 34 [.int .i64 0,.string ⟨#[]⟩,.string ⟨#[]⟩,.bool false,.int .i64 0,.int .i64 0]),oN (.store 6 t5 t15)]) (.seq (.seq (rg 23 [oM 16 t3,oP 17 (.len t16),oP 18 (.bi .eql t17 (vI 0)),oM 19 t18,oE 20 (.load (some 6) t5) 19,oE 21 (.call 48 [t20]) 19,oE 22 (.un .not t21) 19,oP 23 (.pick t19 vT t22)]) (.cond t23 (.seq (rg 2 [oP 2 (.mv vF)]) (.cn [2] .ret)) .skip)) (.seq (rg 6 [oM 24 t3,oM 25 t3,oP 26 (.len t25),oP 27 (.bi .sub t26 (vI 1)),oP 28 (.iaddr 2 t24 t27),oM 6 t28]) (.seq (rg 0 (rF 29 t6 0++[oP 33 (.bi .sub t32 (vI 1))]++rS 34 t29 0 t33)) (.seq (.block 2 (.seq (.reg 36 (some [0,1,2,3,4,5,6,7,8,9,10,11,12,13,14,15,16,17,18,19,20,21,22,23,24,25,26]) (rF 37 t6 1++[oP 41 (.ext (.mnil false) [t40]),oM 42 t41,oF 43 (.faddr 1 t5) 42,oF 44 (.load none t43) 42,oF 45 (.bi .neq t44 (.v (.string ⟨#[]⟩))) 42,oP 46 (.pick t42 t45 vF),oM 47 t46]++rH oE 48 t6 1 47++[oE 52 (.faddr 1 t5) 47,oE 53 (.load none t52) 47,oE 54 (.ext .mget [t51,t53]) 47,oE 55 (.bi .gtr t54 (vI 0)) 47,oP 56 (.pick t47 vT t55),oM 57 t56,oE 58 (.faddr 1 t5) 57,oE 59 (.load none t58) 57,oE 60 (.call 49 [t59]) 57,oE 61 (.un .not t60) 57,oP 62 (.pick t57 vT t61),oM 36 t62])) (.cond t36 (.seq (rg 2 [oP 2 (.mv vF)]) (.cn [2] .ret)) (.seq (rg 63 (rF 64 t6 1++[oP 68 (.ext (.mnil true) [t67]),oM 63 t68])) (.cond t63 (.reg 0 (some [0,1,2,3,4,5,6]) (rF 69 t6 1++[oP 73 (.faddr 1 t5),oP 74 (.load none t73),oN (.ext .mput [t72,t74,(vI 1)])])) .skip))))) (.cn [3,5,10,11,12] (.sub 1 zam_b1)))))))) (rg 12 [oP 116 (.bi .add t12 (vI 1)),oM 12 t116])))))
def zam_q:IQ:=(.seq (rg 2 [oP 2 (.mv vF)]) (.seq (rg 3 [oP 8 (.build [.int .i64 0,.map none] [(0,1,(vI 1))]),oP 9 (.bslice 96 2 1 [.int .i64 0,.map none] [(0,t8)]),oM 3 t9]) (.seq (.seq (rg 12 [oM 10 t0,oP 11 (.len t10),oP 12 (.mv (vI 0))]) (.block 0 (.cn [3,10,11,12] (.sub 0 zam_b0)))) (.seq (rg 2 [oM 117 t3,oP 118 (.len t117),oP 119 (.bi .eql t118 (vI 0)),oM 2 t119]) (.cn [2] .ret)))))
theorem zam_chk:chk Tryd.prog 34 []=some (zam_q.erase,[.tmp 2],120):=by kernel_rfl
def qDz (open_:List (Int × MapC × Unit)):Option (((List (Int × MapC × Unit))) ⊕ ((List (Int × MapC × Unit)))) :=
 gd ((decide ((0:Int)<(open_.length:Int)))=true→qAj ((open_.length:Int) - (1:Int))) <|
 gd ((decide ((0:Int)<(open_.length:Int)))=true→0≤((open_.length:Int) - (1:Int))∧((open_.length:Int) - (1:Int))<open_.length) <|
 gd ((decide ((0:Int)<(open_.length:Int)))=true→(Int.toNat ((open_.length:Int) - (1:Int)))<open_.length) <|
 gd ((decide ((0:Int)<(open_.length:Int)))=true→(Int.toNat ((open_.length:Int) - (1:Int)))<open_.length) <|
 bif ((decide ((0:Int)<(open_.length:Int))) && (decide (((open_.getD (Int.toNat ((open_.length:Int) - (1:Int))) (NT.dft [.int .i64,.map])).1)=(0:Int)))) then (
  gd (qAj ((open_.length:Int) - (1:Int))) <|
  gd (0≤((open_.length:Int) - (1:Int))∧((open_.length:Int) - (1:Int))≤open_.length) <|
  some (.inl (open_.take (Int.toNat ((open_.length:Int) - (1:Int))))))
 else (
  some (.inr open_))
def zam_p3 (open_:List (Int × MapC × Unit)):Option ((List (Int × MapC × Unit))) :=
 qBm (fun x:((List (Int × MapC × Unit)))=>qDz x) open_
def zam_p2 (open_:List (Int × MapC × Unit)):Option ((List (Int × MapC × Unit))) :=
 (zam_p3 open_).bind fun o19 =>
 some o19
def zam_p1 (open_:List (Int × MapC × Unit)) (qHk qHl:Int):Option (Bool ⊕ ((List (Int × MapC × Unit)))) :=
 bif ((decide (qHk=(6:Int))) || (decide (qHk=(7:Int)))) then (
  bif decide ((32:Int)<(open_.length:Int)) then (
   some (.inl false))
  else (
   bif decide (qHk=(7:Int)) then (
    gd (open_.length+([(qHl,(some []),())]:List (Int × MapC × Unit)).length≤9223372036854775807∧(open_.length+([(qHl,(some []),())]:List (Int × MapC × Unit)).length)*16≤140737488355328) <|
    (zam_p2 (open_++[(qHl,(some []),())])).bind fun o20 =>
    some (.inr o20))
   else (
    gd (open_.length+([(qHl,(none:MapC),())]:List (Int × MapC × Unit)).length≤9223372036854775807∧(open_.length+([(qHl,(none:MapC),())]:List (Int × MapC × Unit)).length)*16≤140737488355328) <|
    (zam_p2 (open_++[(qHl,(none:MapC),())])).bind fun o21 =>
    some (.inr o21))))
 else (
  (zam_p2 open_).bind fun o22 =>
  some (.inr o22))
def qCb (x11_ x12_:Int) (x10_:List Eng.Node) (open_:List (Int × MapC × Unit)):Option ((Int × (List (Int × MapC × Unit))) ⊕ (Bool ⊕ ((List (Int × MapC × Unit))))) :=
 bif decide (x12_<x11_) then (
  gd (0≤x12_∧x12_<x10_.length) <|
  gd ((Int.toNat x12_)<x10_.length) <|
  bif decide ((open_.length:Int)=(0:Int)) then (
   some (.inr (.inl false)))
  else (
   (zao_s (x10_.getD (Int.toNat x12_) (ET.dft .node))).bind fun r17 =>
   bif (!r17) then (
    some (.inr (.inl false)))
   else (
    gd (qAj ((open_.length:Int) - (1:Int))) <|
    gd (0≤((open_.length:Int) - (1:Int))∧((open_.length:Int) - (1:Int))<open_.length) <|
    gd ((Int.toNat ((open_.length:Int) - (1:Int)))<open_.length) <|
    gd ((Int.toNat ((open_.length:Int) - (1:Int)))<open_.length) <|
    gd ((Int.toNat ((open_.length:Int) - (1:Int)))<open_.length) <|
    gd (qAj (((open_.getD (Int.toNat ((open_.length:Int) - (1:Int))) (NT.dft [.int .i64,.map])).1) - (1:Int))) <|
    gd ((Int.toNat ((open_.length:Int) - (1:Int)))<open_.length) <|
    gd ((Int.toNat ((open_.length:Int) - (1:Int)))<open_.length) <|
    gd ((Int.toNat ((open_.length:Int) - (1:Int)))<open_.length) <|
    gd ((Int.toNat ((open_.length:Int) - (1:Int)))<(open_.set (Int.toNat ((open_.length:Int) - (1:Int))) ((((open_.getD (Int.toNat ((open_.length:Int) - (1:Int))) (NT.dft [.int .i64,.map])).1) - (1:Int)),(open_.getD (Int.toNat ((open_.length:Int) - (1:Int))) (NT.dft [.int .i64,.map])).2)).length) <|
    gd ((Int.toNat ((open_.length:Int) - (1:Int)))<(open_.set (Int.toNat ((open_.length:Int) - (1:Int))) ((((open_.getD (Int.toNat ((open_.length:Int) - (1:Int))) (NT.dft [.int .i64,.map])).1) - (1:Int)),(open_.getD (Int.toNat ((open_.length:Int) - (1:Int))) (NT.dft [.int .i64,.map])).2)).length) <|
    gd ((Int.toNat ((open_.length:Int) - (1:Int)))<(open_.set (Int.toNat ((open_.length:Int) - (1:Int))) ((((open_.getD (Int.toNat ((open_.length:Int) - (1:Int))) (NT.dft [.int .i64,.map])).1) - (1:Int)),(open_.getD (Int.toNat ((open_.length:Int) - (1:Int))) (NT.dft [.int .i64,.map])).2)).length) <|
    gd ((Int.toNat ((open_.length:Int) - (1:Int)))<(open_.set (Int.toNat ((open_.length:Int) - (1:Int))) ((((open_.getD (Int.toNat ((open_.length:Int) - (1:Int))) (NT.dft [.int .i64,.map])).1) - (1:Int)),(open_.getD (Int.toNat ((open_.length:Int) - (1:Int))) (NT.dft [.int .i64,.map])).2)).length) <|
    gd ((((((open_.set (Int.toNat ((open_.length:Int) - (1:Int))) ((((open_.getD (Int.toNat ((open_.length:Int) - (1:Int))) (NT.dft [.int .i64,.map])).1) - (1:Int)),(open_.getD (Int.toNat ((open_.length:Int) - (1:Int))) (NT.dft [.int .i64,.map])).2)).getD (Int.toNat ((open_.length:Int) - (1:Int))) (NT.dft [.int .i64,.map])).2.1).isNone) && (!decide (((x10_.getD (Int.toNat x12_) (ET.dft .node)).key)=(⟨#[]⟩:BA))))=false→(Int.toNat ((open_.length:Int) - (1:Int)))<(open_.set (Int.toNat ((open_.length:Int) - (1:Int))) ((((open_.getD (Int.toNat ((open_.length:Int) - (1:Int))) (NT.dft [.int .i64,.map])).1) - (1:Int)),(open_.getD (Int.toNat ((open_.length:Int) - (1:Int))) (NT.dft [.int .i64,.map])).2)).length) <|
    gd ((((((open_.set (Int.toNat ((open_.length:Int) - (1:Int))) ((((open_.getD (Int.toNat ((open_.length:Int) - (1:Int))) (NT.dft [.int .i64,.map])).1) - (1:Int)),(open_.getD (Int.toNat ((open_.length:Int) - (1:Int))) (NT.dft [.int .i64,.map])).2)).getD (Int.toNat ((open_.length:Int) - (1:Int))) (NT.dft [.int .i64,.map])).2.1).isNone) && (!decide (((x10_.getD (Int.toNat x12_) (ET.dft .node)).key)=(⟨#[]⟩:BA))))=false→(Int.toNat ((open_.length:Int) - (1:Int)))<(open_.set (Int.toNat ((open_.length:Int) - (1:Int))) ((((open_.getD (Int.toNat ((open_.length:Int) - (1:Int))) (NT.dft [.int .i64,.map])).1) - (1:Int)),(open_.getD (Int.toNat ((open_.length:Int) - (1:Int))) (NT.dft [.int .i64,.map])).2)).length) <|
    gd ((((((open_.set (Int.toNat ((open_.length:Int) - (1:Int))) ((((open_.getD (Int.toNat ((open_.length:Int) - (1:Int))) (NT.dft [.int .i64,.map])).1) - (1:Int)),(open_.getD (Int.toNat ((open_.length:Int) - (1:Int))) (NT.dft [.int .i64,.map])).2)).getD (Int.toNat ((open_.length:Int) - (1:Int))) (NT.dft [.int .i64,.map])).2.1).isNone) && (!decide (((x10_.getD (Int.toNat x12_) (ET.dft .node)).key)=(⟨#[]⟩:BA))))=false→(Int.toNat ((open_.length:Int) - (1:Int)))<(open_.set (Int.toNat ((open_.length:Int) - (1:Int))) ((((open_.getD (Int.toNat ((open_.length:Int) - (1:Int))) (NT.dft [.int .i64,.map])).1) - (1:Int)),(open_.getD (Int.toNat ((open_.length:Int) - (1:Int))) (NT.dft [.int .i64,.map])).2)).length) <|
    gd ((((((open_.set (Int.toNat ((open_.length:Int) - (1:Int))) ((((open_.getD (Int.toNat ((open_.length:Int) - (1:Int))) (NT.dft [.int .i64,.map])).1) - (1:Int)),(open_.getD (Int.toNat ((open_.length:Int) - (1:Int))) (NT.dft [.int .i64,.map])).2)).getD (Int.toNat ((open_.length:Int) - (1:Int))) (NT.dft [.int .i64,.map])).2.1).isNone) && (!decide (((x10_.getD (Int.toNat x12_) (ET.dft .node)).key)=(⟨#[]⟩:BA))))=false→(Int.toNat ((open_.length:Int) - (1:Int)))<(open_.set (Int.toNat ((open_.length:Int) - (1:Int))) ((((open_.getD (Int.toNat ((open_.length:Int) - (1:Int))) (NT.dft [.int .i64,.map])).1) - (1:Int)),(open_.getD (Int.toNat ((open_.length:Int) - (1:Int))) (NT.dft [.int .i64,.map])).2)).length) <|
    (qBd ((x10_.getD (Int.toNat x12_) (ET.dft .node)).key)).bind fun r18 =>
    bif (((((((open_.set (Int.toNat ((open_.length:Int) - (1:Int))) ((((open_.getD (Int.toNat ((open_.length:Int) - (1:Int))) (NT.dft [.int .i64,.map])).1) - (1:Int)),(open_.getD (Int.toNat ((open_.length:Int) - (1:Int))) (NT.dft [.int .i64,.map])).2)).getD (Int.toNat ((open_.length:Int) - (1:Int))) (NT.dft [.int .i64,.map])).2.1).isNone) && (!decide (((x10_.getD (Int.toNat x12_) (ET.dft .node)).key)=(⟨#[]⟩:BA)))) || (decide ((0:Int)<(mget (((open_.set (Int.toNat ((open_.length:Int) - (1:Int))) ((((open_.getD (Int.toNat ((open_.length:Int) - (1:Int))) (NT.dft [.int .i64,.map])).1) - (1:Int)),(open_.getD (Int.toNat ((open_.length:Int) - (1:Int))) (NT.dft [.int .i64,.map])).2)).getD (Int.toNat ((open_.length:Int) - (1:Int))) (NT.dft [.int .i64,.map])).2.1) ((x10_.getD (Int.toNat x12_) (ET.dft .node)).key))))) || (!r18)) then (
     some (.inr (.inl false)))
    else (
     gd ((Int.toNat ((open_.length:Int) - (1:Int)))<(open_.set (Int.toNat ((open_.length:Int) - (1:Int))) ((((open_.getD (Int.toNat ((open_.length:Int) - (1:Int))) (NT.dft [.int .i64,.map])).1) - (1:Int)),(open_.getD (Int.toNat ((open_.length:Int) - (1:Int))) (NT.dft [.int .i64,.map])).2)).length) <|
     gd ((Int.toNat ((open_.length:Int) - (1:Int)))<(open_.set (Int.toNat ((open_.length:Int) - (1:Int))) ((((open_.getD (Int.toNat ((open_.length:Int) - (1:Int))) (NT.dft [.int .i64,.map])).1) - (1:Int)),(open_.getD (Int.toNat ((open_.length:Int) - (1:Int))) (NT.dft [.int .i64,.map])).2)).length) <|
     gd ((Int.toNat ((open_.length:Int) - (1:Int)))<(open_.set (Int.toNat ((open_.length:Int) - (1:Int))) ((((open_.getD (Int.toNat ((open_.length:Int) - (1:Int))) (NT.dft [.int .i64,.map])).1) - (1:Int)),(open_.getD (Int.toNat ((open_.length:Int) - (1:Int))) (NT.dft [.int .i64,.map])).2)).length) <|
     gd ((Int.toNat ((open_.length:Int) - (1:Int)))<(open_.set (Int.toNat ((open_.length:Int) - (1:Int))) ((((open_.getD (Int.toNat ((open_.length:Int) - (1:Int))) (NT.dft [.int .i64,.map])).1) - (1:Int)),(open_.getD (Int.toNat ((open_.length:Int) - (1:Int))) (NT.dft [.int .i64,.map])).2)).length) <|
     bif (((open_.set (Int.toNat ((open_.length:Int) - (1:Int))) ((((open_.getD (Int.toNat ((open_.length:Int) - (1:Int))) (NT.dft [.int .i64,.map])).1) - (1:Int)),(open_.getD (Int.toNat ((open_.length:Int) - (1:Int))) (NT.dft [.int .i64,.map])).2)).getD (Int.toNat ((open_.length:Int) - (1:Int))) (NT.dft [.int .i64,.map])).2.1).isSome then (
      gd ((Int.toNat ((open_.length:Int) - (1:Int)))<(open_.set (Int.toNat ((open_.length:Int) - (1:Int))) ((((open_.getD (Int.toNat ((open_.length:Int) - (1:Int))) (NT.dft [.int .i64,.map])).1) - (1:Int)),(open_.getD (Int.toNat ((open_.length:Int) - (1:Int))) (NT.dft [.int .i64,.map])).2)).length) <|
      gd ((Int.toNat ((open_.length:Int) - (1:Int)))<(open_.set (Int.toNat ((open_.length:Int) - (1:Int))) ((((open_.getD (Int.toNat ((open_.length:Int) - (1:Int))) (NT.dft [.int .i64,.map])).1) - (1:Int)),(open_.getD (Int.toNat ((open_.length:Int) - (1:Int))) (NT.dft [.int .i64,.map])).2)).length) <|
      gd ((Int.toNat ((open_.length:Int) - (1:Int)))<(open_.set (Int.toNat ((open_.length:Int) - (1:Int))) ((((open_.getD (Int.toNat ((open_.length:Int) - (1:Int))) (NT.dft [.int .i64,.map])).1) - (1:Int)),(open_.getD (Int.toNat ((open_.length:Int) - (1:Int))) (NT.dft [.int .i64,.map])).2)).length) <|
      gd ((Int.toNat ((open_.length:Int) - (1:Int)))<(open_.set (Int.toNat ((open_.length:Int) - (1:Int))) ((((open_.getD (Int.toNat ((open_.length:Int) - (1:Int))) (NT.dft [.int .i64,.map])).1) - (1:Int)),(open_.getD (Int.toNat ((open_.length:Int) - (1:Int))) (NT.dft [.int .i64,.map])).2)).length) <|
      gd ((((open_.set (Int.toNat ((open_.length:Int) - (1:Int))) ((((open_.getD (Int.toNat ((open_.length:Int) - (1:Int))) (NT.dft [.int .i64,.map])).1) - (1:Int)),(open_.getD (Int.toNat ((open_.length:Int) - (1:Int))) (NT.dft [.int .i64,.map])).2)).getD (Int.toNat ((open_.length:Int) - (1:Int))) (NT.dft [.int .i64,.map])).2.1).isSome=true) <|
      (zam_p1 ((open_.set (Int.toNat ((open_.length:Int) - (1:Int))) ((((open_.getD (Int.toNat ((open_.length:Int) - (1:Int))) (NT.dft [.int .i64,.map])).1) - (1:Int)),(open_.getD (Int.toNat ((open_.length:Int) - (1:Int))) (NT.dft [.int .i64,.map])).2)).set (Int.toNat ((open_.length:Int) - (1:Int))) (((open_.set (Int.toNat ((open_.length:Int) - (1:Int))) ((((open_.getD (Int.toNat ((open_.length:Int) - (1:Int))) (NT.dft [.int .i64,.map])).1) - (1:Int)),(open_.getD (Int.toNat ((open_.length:Int) - (1:Int))) (NT.dft [.int .i64,.map])).2)).getD (Int.toNat ((open_.length:Int) - (1:Int))) (NT.dft [.int .i64,.map])).1,((mput (((open_.set (Int.toNat ((open_.length:Int) - (1:Int))) ((((open_.getD (Int.toNat ((open_.length:Int) - (1:Int))) (NT.dft [.int .i64,.map])).1) - (1:Int)),(open_.getD (Int.toNat ((open_.length:Int) - (1:Int))) (NT.dft [.int .i64,.map])).2)).getD (Int.toNat ((open_.length:Int) - (1:Int))) (NT.dft [.int .i64,.map])).2.1) ((x10_.getD (Int.toNat x12_) (ET.dft .node)).key) (1:Int)),(((open_.set (Int.toNat ((open_.length:Int) - (1:Int))) ((((open_.getD (Int.toNat ((open_.length:Int) - (1:Int))) (NT.dft [.int .i64,.map])).1) - (1:Int)),(open_.getD (Int.toNat ((open_.length:Int) - (1:Int))) (NT.dft [.int .i64,.map])).2)).getD (Int.toNat ((open_.length:Int) - (1:Int))) (NT.dft [.int .i64,.map])).2).2))) ((x10_.getD (Int.toNat x12_) (ET.dft .node)).kind) ((x10_.getD (Int.toNat x12_) (ET.dft .node)).kids)).bind fun o23=>(Sum.elim (fun (o23_0:Bool) =>
       some (.inr (.inl o23_0))) (fun (o23_1:(List (Int × MapC × Unit))) =>
       gd (qAj (x12_+(1:Int))) <|
       some (.inl ((x12_+(1:Int)),o23_1)))) o23)
     else (
      (zam_p1 (open_.set (Int.toNat ((open_.length:Int) - (1:Int))) ((((open_.getD (Int.toNat ((open_.length:Int) - (1:Int))) (NT.dft [.int .i64,.map])).1) - (1:Int)),(open_.getD (Int.toNat ((open_.length:Int) - (1:Int))) (NT.dft [.int .i64,.map])).2)) ((x10_.getD (Int.toNat x12_) (ET.dft .node)).kind) ((x10_.getD (Int.toNat x12_) (ET.dft .node)).kids)).bind fun o24=>(Sum.elim (fun (o24_0:Bool) =>
       some (.inr (.inl o24_0))) (fun (o24_1:(List (Int × MapC × Unit))) =>
       gd (qAj (x12_+(1:Int))) <|
       some (.inl ((x12_+(1:Int)),o24_1)))) o24)))))
 else (
  some (.inr (.inr open_)))
def zam_p0 (x11_ x12_:Int) (x10_:List Eng.Node) (open_:List (Int × MapC × Unit)):Option (Bool ⊕ ((List (Int × MapC × Unit)))) :=
 qBm (fun x:(Int × (List (Int × MapC × Unit)))=>qCb x11_ x.1 x10_ x.2) (x12_,open_)
def zam_s (v:(List Eng.Node)):Option Bool :=
 (zam_p0 (v.length:Int) (0:Int) v [((1:Int),(none:MapC),())]).bind fun o25=>(Sum.elim (fun (o25_0:Bool) =>
  some o25_0) (fun (o25_1:(List (Int × MapC × Unit))) =>
  some (decide ((o25_1.length:Int)=(0:Int))))) o25
def zam_G:Nat→Option CQ:=tblQ [(48,zao_w),(49,qDr)]
theorem zam_Gok:∀f C,zam_G f=some C→qAe Tryd.prog f C:=qAi ⟨zao_ok,qFe,tV⟩
def zDJS1:=(qAb (dSO 10 (dO 0)) (qAb (dSO 11 dZ) (qAb (dSO 12 dZ) dNil)))
def zDJS2:=(qAb (qBh .node) (qAb (dBag [.int .i64,.map] 96) dNil))
def zam_d3:=(dQS (qAb (dSO 3 (dBsl 1)) zDJS1) zDJS2)
def zam_l3:SubQ:=mkL zam_d3 (fun x=>zam_p3 x.2.2.1) fun x r R kn kx kr=>kx 3 ⟨[sL 3 (.bsl 1),sL 10 (.own 0),sL 11 (.vI x.1.2.2.1),sL 12 (.vI x.1.2.2.2.1)],[],[.view .node x.2.1,.bag [.int .i64,.map] 96 r]⟩
def zam_d2:=(dQS (qAb (dSO 3 (dBsl 1)) zDJS1) zDJS2)
def zam_l2:SubQ:=mkL zam_d2 (fun x=>zam_p2 x.2.2.1) fun x r R kn kx kr=>kn ⟨[sL 3 (.bsl 1),sL 10 (.own 0),sL 11 (.vI x.1.2.2.1),sL 12 (.vI x.1.2.2.2.1)],[],[.view .node x.2.1,.bag [.int .i64,.map] 96 r]⟩
def zam_d1:=(dQS (qAb (dSO 3 (dBsl 1)) (qAb (dSO 5 (dH 2 0)) zDJS1)) (qAb (qBh .node) (qAb (dBag [.int .i64,.map] 96) (qAb (dCells 34 (qAb dZ (qAb dS (qAb dS (qAb dB (qAb dZ (qAb dZ dNil))))))) dNil))))
def zam_l1:SubQ:=mkL zam_d1 (fun x=>zam_p1 x.2.2.1 x.2.2.2.1.1 x.2.2.2.1.2.2.2.2.2.1) fun x r R kn kx kr=>(Sum.elim (fun (r_0:Bool)=>kr ⟨[sL 2 (.vB r_0)],[],[.view .node x.2.1]⟩) (fun (r_1:(List (Int × MapC × Unit)))=>kn ⟨[sL 3 (.bsl 1),sL 10 (.own 0),sL 11 (.vI x.1.2.2.2.1),sL 12 (.vI x.1.2.2.2.2.1)],[],[.view .node x.2.1,.bag [.int .i64,.map] 96 r_1]⟩)) r
def zam_d0:=(dQS (qAb (dSO 3 (dBsl 1)) zDJS1) zDJS2)
def zam_l0:SubQ:=mkL zam_d0 (fun x=>zam_p0 x.1.2.2.1 x.1.2.2.2.1 x.2.1 x.2.2.1) fun x r R kn kx kr=>(Sum.elim (fun (r_0:Bool)=>kr ⟨[sL 2 (.vB r_0)],[],[.view .node x.2.1]⟩) (fun (r_1:(List (Int × MapC × Unit)))=>kx 0 ⟨[sL 3 (.bsl 1)],[],[.view .node x.2.1,.bag [.int .i64,.map] 96 r_1]⟩)) r
def zam_L:Nat→SubQ:=tblL [(3,zam_l3),(2,zam_l2),(1,zam_l1),(0,zam_l0)]
theorem zam_sub3:qBu zam_L zam_G 1 13 120 3 zam_b3:=qAw (show zam_L 3=zam_l3 from by kernel_rfl) fun x R kn kx kr=>qAv (step:=fun y=>qDz y) (enc:=fun (y:(List (Int × MapC × Unit)))=>zam_d3.e (x.1,(x.2.1,y,x.2.2.2))) (fun y=>by kernel_rfl) (fun y ki=>by simp only [qDz,-eq_self,qAc,qAf,obA,obS,slL,slR,qAd]; kernel_rfl) x.2.2.1
theorem zam_sub2:qBu zam_L zam_G 1 13 120 2 zam_b2:=qAw (show zam_L 2=zam_l2 from by kernel_rfl) fun x R kn kx kr=>by
 simp only [zam_p2,-eq_self,qAc,qAf,obA,obS,slL,slR,qAd];kernel_rfl
theorem zam_sub1:qBu zam_L zam_G 1 13 120 1 zam_b1:=qAw (show zam_L 1=zam_l1 from by kernel_rfl) fun x R kn kx kr=>by
 simp only [zam_p1,-eq_self,qAc,qAf,obA,obS,slL,slR,qAd];kernel_rfl
theorem zam_sub0:qBu zam_L zam_G 1 13 120 0 zam_b0:=qAw (show zam_L 0=zam_l0 from by kernel_rfl) fun x R kn kx kr=>qAv (step:=fun y=>qCb x.1.2.2.1 y.1 x.2.1 y.2) (enc:=fun (y:Int × (List (Int × MapC × Unit)))=>zam_d0.e ((x.1.1,x.1.2.1,x.1.2.2.1,y.1,x.1.2.2.2.2),(x.2.1,y.2,x.2.2.2))) (fun y=>by kernel_rfl) (fun y ki=>by simp only [qCb,-eq_self,qAc,qAf,obA,obS,slL,slR,qAd]; kernel_rfl) (x.1.2.2.2.1,x.2.2.1)
theorem zam_subs:qAo zam_L zam_G 1 13 120 zam_q:=qAk (show qAr zam_L zam_G 1 13 120 [(0,zam_b0),(1,zam_b1),(2,zam_b2),(3,zam_b3)] from ⟨zam_sub0,zam_sub1,zam_sub2,zam_sub3,tV⟩)
def zam_da:=(qAb (dVC (dCO (dO 0))) dNil)
def zam_db:=(qAb (qBh .node) dNil)
def zam_c:CS:=mkC zam_da zam_db (fun x y=>zam_s y.1) (fun x y r=>.c (.o (.vB r))) fun x y r=>[.view .node y.1]
theorem zam_val:qAl Tryd.prog 34 zam_c:=qAn zam_chk 13 zam_Gok 1 (fun x=>Nat.le_of_ble_eq_true rfl) (fun y=>rfl) zam_subs fun x y=>by
 simp only [zam_s,-eq_self,qAc,qAf,obA,obS,slL,slR,qAd];kernel_rfl
def zam_w:CQ:=qBk [(0,none,some (.node,34))] (qCu [false] zam_c)
theorem zam_ok:qAe Tryd.prog 34 zam_w:=qCj zam_val
end
theorem nd_get {v:List Eng.Node} {a:Nat} {n:Eng.Node} (h:v[a]?=some n):v.getD a (ET.dft .node)=n:=by
 rw [List.getD_eq_getElem?_getD,h]; rfl
theorem nd_some {v:List Eng.Node} {a:Nat} (h:a<v.length):∃n,v[a]?=some n∧n∈v∧v.getD a (ET.dft .node)=n :=
 ⟨v[a],List.getElem?_eq_getElem h,List.getElem_mem h,nd_get (List.getElem?_eq_getElem h)⟩
structure OkN (n:Eng.Node):Prop where
 key:n.key.size≤3000000
 text:n.text.size≤3000000
 kids:qAj n.kids
def OkL (v:List Eng.Node):Prop:=v.length≤2000000∧∀n∈v,OkN n
def by8 (t:BA) (i:Nat):Nat:=(t.get! i).toNat
theorem by8_lt (t:BA) (i:Nat):by8 t i<256:=UInt8.toNat_lt _
theorem qEy {t:BA} {i:Nat} (h:i<t.size):bAt t (i:Int)=(by8 t i:Int):=by
 rw [bAt_in h];unfold by8;congr 2
 cases t with
 | mk d=>exact (getElem!_pos d i h).symm
def qGn (n:Nat) (b:Nat→Nat):Nat→Nat→Nat→Nat→Int
 | 0,_,_,_=>0
 | m+1,i,lo,hi=>if n≤i then 31 else if b i<lo∨hi<b i then 32 else qGn n b m (i+1) 128 191
theorem contN_cases (n:Nat) (b:Nat→Nat):∀(m i lo hi:Nat),qGn n b m i lo hi=0∨qGn n b m i lo hi=31∨qGn n b m i lo hi=32
 | 0,_,_,_=>.inl rfl
 | m+1,i,lo,hi=>by
  unfold qGn;split
  ·exact .inr (.inl rfl)
  ·split
   ·exact .inr (.inr rfl)
   ·exact contN_cases n b m _ _ _
theorem firstT_low:∀c:Fin 256,128≤c.val→Lib.firstT c.val≠240:=by decide +kernel
def seqK (t:BA) (a:Nat):Int :=
 if Lib.firstT (by8 t a)=241 then 32 else qGn (t.size - a) (fun k=>by8 t (a+k)) (Lib.firstT (by8 t a) % 8 - 1) 1 (Lib.accLo (Lib.firstT (by8 t a) / 16)) (Lib.accHi (Lib.firstT (by8 t a) / 16))
def seqW (t:BA) (a:Nat):Nat:=Lib.firstT (by8 t a) % 8
theorem seqK_cases (t:BA) (a:Nat):seqK t a=0∨seqK t a=31∨seqK t a=32:=by
 unfold seqK;split
 ·exact .inr (.inr rfl)
 ·exact contN_cases _ _ _ _ _ _
theorem firstT_three {b:Nat} (h:128≤b) (hb:b<256) (h2:Lib.firstT b≠241):2≤Lib.firstT b % 8∧Lib.firstT b % 8≤4:=by
 have:=firstT_low ⟨b,hb⟩ h;rcases Lib.firstT_cases b with h | h | h | h | h | h | h | h | h <;> simp only [h] at * <;> omega
theorem contN_in {n:Nat} {b:Nat→Nat}:∀ {m i lo hi:Nat},qGn n b m i lo hi=0→m=0∨i+m≤n
 | 0,_,_,_,_=>.inl rfl
 | m+1,i,lo,hi,h=>by
  unfold qGn at h;split at h
  ·cases h
  ·split at h
   ·cases h
   ·rcases contN_in h with h | h <;> omega
theorem qFd {t:BA} {a:Nat} (ha:a<t.size) (h:128≤by8 t a) (h0:seqK t a=0):a+seqW t a≤t.size∧2≤seqW t a∧seqW t a≤4:=by
 unfold seqK at h0;unfold seqW;split at h0
 ·cases h0
 ·rename_i h1;have:=firstT_three h (by8_lt t a) h1;rcases contN_in h0 with h2 | h2 <;> omega
set_option maxRecDepth 100000 in
set_option maxHeartbeats 4000000 in
theorem seq_dec {t:BA} {a:Nat} (ha:a<t.size) (h:128≤by8 t a) :
  (seqK t a=0→(Utf8.decode t a).2=seqW t a) ∧
  (seqK t a≠0→Utf8.decode t a=(65533,1)∧(qFy (t.size - a) (by8 t a) (by8 t (a+1)) (by8 t (a+2))=!decide (seqK t a=31))):=by
 have l0:=by8_lt t a;have l1:=by8_lt t (a+1);have l2:=by8_lt t (a+2);have l3:=by8_lt t (a+3);have hd:Utf8.decode t a=Lib.decodeN (t.size - a) (by8 t a) (by8 t (a+1)) (by8 t (a+2)) (by8 t (a+3)):=Lib.decode_at t a;have hf:=firstT_low ⟨by8 t a,l0⟩ h;simp only at hf;rw [hd];unfold seqK seqW;by_cases h1:Lib.firstT (by8 t a)=241
 ·rw [if_pos h1];refine ⟨fun h=>(by cases h),fun _=>⟨Lib.bad_eq _ _ _ _ _ l0 h1,?_⟩⟩;unfold qFy;rw [if_neg (by omega),h1,if_pos (by omega)];rfl
 ·rw [if_neg h1,←Lib.slow_eq _ _ _ _ _ (by omega) l1 l2 l3 (by rcases Lib.firstT_cases (by8 t a) with h | h | h | h | h | h | h | h | h <;> omega)]
  have hn:1≤t.size - a:=by omega
  generalize t.size - a=n at *
  unfold qFy;generalize hb1:by8 t (a+1)=b1 at *
  generalize hb2:by8 t (a+2)=b2 at *
  generalize hb3:by8 t (a+3)=b3 at *
  generalize by8 t a=b0 at *
  rcases Lib.firstT_cases b0 with g | g | g | g | g | g | g | g | g <;> first | exact (hf g).elim | exact (h1 g).elim | rw [g]
  all_goals
   simp only [Nat.reduceMod,Nat.reduceDiv,Nat.reduceSub,qGn,Lib.slowN,Lib.accLo,Lib.accHi,Nat.reduceEqDiff,Nat.reduceAdd,Nat.reduceLeDiff,if_true,if_false,hb1,hb2,hb3];repeat' split
   all_goals first | (exfalso; omega) | (refine ⟨fun h=>?_,fun h=>⟨?_,?_⟩⟩ <;> first | rfl | (exfalso; omega) | (cases h) | (exact (h rfl).elim))
end Go.Proofs.YtnifdcmeffnpaaaDoor
