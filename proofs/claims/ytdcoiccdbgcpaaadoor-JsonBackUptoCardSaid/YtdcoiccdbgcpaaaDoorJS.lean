/-
  Functions as the engine reads them (printed by gen.py).
-/
import Derived.Test.YtdcoiccdbgcpaaaDoorEngO
import Derived.Test.YtdcoiccdbgcpaaaDoorProg
import Derived.Test.YtdcoiccdbgcpaaaDoorUtf8
import Derived.Test.YtdcoiccdbgcpaaaDoorGC
import Derived.Test.YtdcoiccdbgcpaaaDoorPShaped
namespace Go.Proofs.YtdcoiccdbgcpaaaDoor
open Go.Eng
set_option linter.unusedVariables false
set_option linter.unusedSimpArgs false
set_option maxRecDepth 100000
noncomputable section
def zan_q:IQ:=(.seq (rg 2 [oP 1 (.box 36 6 t0),oP 2 (.mv vF)]) (.seq (.block 0 (.seq (rg 5 [oP 6 (.faddr 0 t1),oP 7 (.load none t6),oP 8 (.bi .lss t7 (vI 1)),oM 9 t8,oG 10 (.faddr 0 t1) 9 false,oG 11 (.load none t10) 9 false,oG 12 (.bi .gtr t11 (vI 7)) 9 false,oP 13 (.pick t9 vT t12),oM 14 t13,oG 15 (.faddr 5 t1) 14 false,oG 16 (.load none t15) 14 false,oG 17 (.bi .lss t16 (vI 0)) 14 false,oP 18 (.pick t14 vT t17),oM 19 t18,oG 20 (.faddr 5 t1) 19 false,oG 21 (.load none t20) 19 false,oG 22 (.bi .gtr t21 (vI 0)) 19 false,oG 23 (.mv t22) 19 false,oG 24 (.faddr 0 t1) 23 true,oG 25 (.load none t24) 23 true,oG 26 (.bi .neq t25 (vI 6)) 23 true,oG 27 (.pick t23 t26 vF) 19 false,oG 28 (.mv t27) 19 false,oG 29 (.faddr 0 t1) 28 true,oG 30 (.load none t29) 28 true,oG 31 (.bi .neq t30 (vI 7)) 28 true,oG 32 (.pick t28 t31 vF) 19 false,oP 33 (.pick t19 vT t32),oM 5 t33]) (.cond t5 (.seq (rg 2 [oP 2 (.mv vF)]) (.cn [2] .ret)) (.seq (rg 34 [oP 35 (.faddr 0 t1),oP 36 (.load none t35),oP 37 (.bi .eql t36 (vI 4)),oM 34 t37]) (.cond t34 (.seq (rg 4 [oP 39 (.faddr 2 t1),oP 40 (.load none t39),oP 41 (.call 110 [t40]),oM 38 t41,oP 42 (.extract t38 0),oP 43 (.extract t38 1),oM 3 t42,oM 4 t43]) (.seq (rg 2 [oP 44 (.faddr 2 t1),oP 45 (.load none t44),oP 46 (.call 111 [t45]),oM 47 t46,oG 48 (.faddr 3 t1) 47 true,oG 49 (.load none t48) 47 true,oG 50 (.mv t4) 47 true,oG 51 (.beq false t49 t50) 47 true,oP 52 (.pick t47 t51 vF),oM 53 t52,oG 54 (.faddr 4 t1) 53 true,oG 55 (.load none t54) 53 true,oG 56 (.mv t3) 53 true,oG 57 (.bi .eql t55 t56) 53 true,oP 58 (.pick t53 t57 vF),oM 2 t58]) (.cn [2] .ret))) (.seq (rg 59 [oP 60 (.faddr 3 t1),oP 61 (.load none t60),oM 62 t61,oG 63 (.faddr 4 t1) 62 false,oG 64 (.load none t63) 62 false,oG 65 (.bi .neq t64 (vI 0)) 62 false,oP 66 (.pick t62 vT t65),oM 59 t66]) (.cond t59 (.seq (rg 2 [oP 2 (.mv vF)]) (.cn [2] .ret)) (.seq (rg 67 [oP 68 (.faddr 0 t1),oP 69 (.load none t68),oP 70 (.bi .eql t69 (vI 5)),oM 67 t70]) (.cond t67 (.seq (rg 2 [oP 71 (.faddr 2 t1),oP 72 (.load none t71),oP 73 (.call 79 [t72]),oM 2 t73]) (.cn [2] .ret)) .skip))))))))) (.seq (rg 2 [oP 74 (.faddr 2 t1),oP 75 (.load none t74),oP 76 (.bi .eql t75 (.v (.string ⟨#[]⟩))),oM 2 t76]) (.cn [2] .ret))))
theorem zan_chk:chk Tryd.prog 78 []=some (zan_q.erase,[.tmp 2],77):=by kernel_rfl
def zan_s (n:Eng.Node):Option Bool :=
 bif ((((decide (n.kind<(1:Int))) || (decide ((7:Int)<n.kind))) || (decide (n.kids<(0:Int)))) || (((decide ((0:Int)<n.kids)) && (!decide (n.kind=(6:Int)))) && (!decide (n.kind=(7:Int))))) then (
  some false)
 else (
  bif decide (n.kind=(4:Int)) then (
   (zab_s n.text).bind fun r1 =>
   (zaa_s n.text).bind fun r2 =>
   some ((r2 && (n.whole == r1.2)) && (decide (n.int=r1.1))))
  else (
   bif (n.whole || (!decide (n.int=(0:Int)))) then (
    some false)
   else (
    bif decide (n.kind=(5:Int)) then (
     (qBb n.text).bind fun r3 =>
     some r3)
    else (
     some (decide (n.text=(⟨#[]⟩:ByteArray)))))))
def zan_G:Nat→Option CQ:=tblQ [(110,zab_w),(111,zaa_w),(79,qDy)]
theorem zan_Gok:∀f C,zan_G f=some C→qAe Tryd.prog f C:=qAj ⟨zab_ok,zaa_ok,qFk,trivial⟩
def zan_L:Nat→SubQ:=tblL []
theorem zan_subs:qAo zan_L zan_G 0 5 77 zan_q:=qAl (show qAp zan_L zan_G 0 5 77 [] from trivial)
def zan_da:=(dCons (dVC (dCA (dCons dZ (dCons dS (dCons dS (dCons dB (dCons dZ (dCons dZ dNil)))))))) dNil)
def zan_db:=(dNil:Dec Unit (List SB))
def zan_c:CS:=mkC zan_da zan_db (fun x y=>zan_s (⟨x.1.1,x.1.2.1,x.1.2.2.1,x.1.2.2.2.1,x.1.2.2.2.2.1,x.1.2.2.2.2.2.1⟩:Eng.Node)) (fun x y r=>.c (.o (.vB r))) fun x y r=>[]
theorem zan_val:qAm Tryd.prog 78 zan_c:=qAn zan_chk 5 zan_Gok 0 (fun x=>Nat.le_of_ble_eq_true rfl) (fun y=>rfl) zan_subs fun x y=>by
 simp only [zan_s,-eq_self,qAc,qAf,obA,obS,slL,slR,qAb]
 kernel_rfl
def zan_w:CQ:=liftV [] zan_c
theorem zan_ok:qAe Tryd.prog 78 zan_w:=qAy zan_val
def zal_b3:IQ:=(.loop [3,10,11,12] (.seq (.seq (rg 110 [oM 98 t3,oP 99 (.len t98),oP 100 (.bi .gtr t99 (vI 0)),oM 101 t100,oG 102 (.mv t3) 101 true,oG 103 (.mv t3) 101 true,oG 104 (.len t103) 101 true,oG 105 (.bi .sub t104 (vI 1)) 101 true,oG 106 (.iaddr 2 t102 t105) 101 true,oG 107 (.faddr 0 t106) 101 true,oG 108 (.load none t107) 101 true,oG 109 (.bi .eql t108 (vI 0)) 101 true,oP 110 (.pick t101 t109 vF)]) (.cond t110 .skip (.cn [3,10,11,12] (.exit 3)))) (.block 4 (rg 3 [oM 111 t3,oM 112 t3,oP 113 (.len t112),oP 114 (.bi .sub t113 (vI 1)),oP 115 (.sub (some 2) t111 none (some t114)),oM 3 t115]))))
def zal_b2:IQ:=(.join [] [3,10,11,12] (.block 3 (.cn [3,10,11,12] (.sub 3 zal_b3))))
def zal_b1:IQ:=(.join [] [3,10,11,12] (.seq (.seq (rg 82 [oP 75 (.faddr 0 t5),oP 76 (.load none t75),oP 77 (.bi .eql t76 (vI 6)),oM 78 t77,oG 79 (.faddr 0 t5) 78 false,oG 80 (.load none t79) 78 false,oG 81 (.bi .eql t80 (vI 7)) 78 false,oP 82 (.pick t78 vT t81)]) (.cond t82 (.seq (.seq (rg 85 [oM 83 t3,oP 84 (.len t83),oP 85 (.bi .gtr t84 (vI 32))]) (.cond t85 (.seq (rg 2 [oP 2 (.mv vF)]) (.cn [2] .ret)) .skip)) (.seq (rg 0 [oP 86 (.faddr 5 t5),oP 87 (.load none t86),oP 88 (.build [.int .i64 0,.map none] [(0,1,t87)]),oP 7 (.alloc 101 [.int .i64 0,.map none]),oN (.store 2 t7 t88)]) (.seq (.seq (rg 91 [oP 89 (.faddr 0 t5),oP 90 (.load none t89),oP 91 (.bi .eql t90 (vI 7))]) (.cond t91 (rg 0 [oP 92 (.ext .mkmap []),oP 93 (.faddr 1 t7),oN (.store 1 t93 t92)]) .skip)) (rg 3 [oM 94 t3,oP 95 (.load (some 2) t7),oP 96 (.bslice 101 2 1 [.int .i64 0,.map none] [(0,t95)]),oP 97 (.append 101 2 16 [.int .i64 0,.map none] t94 t96),oM 3 t97])))) .skip)) (.cn [3,10,11,12] (.sub 2 zal_b2))))
def zal_b0:IQ:=(.loop [3,10,11,12] (.seq (rg 13 [oP 13 (.bi .lss t12 t11)]) (.seq (.cond t13 .skip (.cn [3] (.exit 0))) (.seq (.block 1 (.seq (rg 0 [oP 14 (.iaddr 6 t10 t12),oP 15 (.load (some 6) t14),oP 5 (.alloc 36 [.int .i64 0,.string ⟨#[]⟩,.string ⟨#[]⟩,.bool false,.int .i64 0,.int .i64 0]),oN (.store 6 t5 t15)]) (.seq (.seq (rg 23 [oM 16 t3,oP 17 (.len t16),oP 18 (.bi .eql t17 (vI 0)),oM 19 t18,oG 20 (.load (some 6) t5) 19 false,oG 21 (.call 78 [t20]) 19 false,oG 22 (.un .not t21) 19 false,oP 23 (.pick t19 vT t22)]) (.cond t23 (.seq (rg 2 [oP 2 (.mv vF)]) (.cn [2] .ret)) .skip)) (.seq (rg 6 [oM 24 t3,oM 25 t3,oP 26 (.len t25),oP 27 (.bi .sub t26 (vI 1)),oP 28 (.iaddr 2 t24 t27),oM 6 t28]) (.seq (rg 0 [oM 29 t6,oP 30 (.nk t29),oP 31 (.faddr 0 t30),oP 32 (.load none t31),oP 33 (.bi .sub t32 (vI 1)),oP 34 (.nk t29),oP 35 (.faddr 0 t34),oN (.store 1 t35 t33)]) (.seq (.block 2 (.seq (.reg 36 (some [0,1,2,3,4,5,6,7,8,9,10,11,12,13,14,15,16,17,18,19,20,21,22,23,24,25,26]) [oM 37 t6,oP 38 (.nk t37),oP 39 (.faddr 1 t38),oP 40 (.load none t39),oP 41 (.ext (.mnil false) [t40]),oM 42 t41,oG 43 (.faddr 1 t5) 42 true,oG 44 (.load none t43) 42 true,oG 45 (.bi .neq t44 (.v (.string ⟨#[]⟩))) 42 true,oP 46 (.pick t42 t45 vF),oM 47 t46,oG 48 (.mv t6) 47 false,oG 49 (.nk t48) 47 false,oG 50 (.faddr 1 t49) 47 false,oG 51 (.load none t50) 47 false,oG 52 (.faddr 1 t5) 47 false,oG 53 (.load none t52) 47 false,oG 54 (.ext .mget [t51,t53]) 47 false,oG 55 (.bi .gtr t54 (vI 0)) 47 false,oP 56 (.pick t47 vT t55),oM 57 t56,oG 58 (.faddr 1 t5) 57 false,oG 59 (.load none t58) 57 false,oG 60 (.call 79 [t59]) 57 false,oG 61 (.un .not t60) 57 false,oP 62 (.pick t57 vT t61),oM 36 t62]) (.cond t36 (.seq (rg 2 [oP 2 (.mv vF)]) (.cn [2] .ret)) (.seq (rg 63 [oM 64 t6,oP 65 (.nk t64),oP 66 (.faddr 1 t65),oP 67 (.load none t66),oP 68 (.ext (.mnil true) [t67]),oM 63 t68]) (.cond t63 (.reg 0 (some [0,1,2,3,4,5,6]) [oM 69 t6,oP 70 (.nk t69),oP 71 (.faddr 1 t70),oP 72 (.load none t71),oP 73 (.faddr 1 t5),oP 74 (.load none t73),oN (.ext .mput [t72,t74,(vI 1)])]) .skip))))) (.cn [3,5,10,11,12] (.sub 1 zal_b1)))))))) (rg 12 [oP 116 (.bi .add t12 (vI 1)),oM 12 t116])))))
def zal_q:IQ:=(.seq (rg 2 [oP 2 (.mv vF)]) (.seq (rg 3 [oP 8 (.build [.int .i64 0,.map none] [(0,1,(vI 1))]),oP 9 (.bslice 101 2 1 [.int .i64 0,.map none] [(0,t8)]),oM 3 t9]) (.seq (.seq (rg 12 [oM 10 t0,oP 11 (.len t10),oP 12 (.mv (vI 0))]) (.block 0 (.cn [3,10,11,12] (.sub 0 zal_b0)))) (.seq (rg 2 [oM 117 t3,oP 118 (.len t117),oP 119 (.bi .eql t118 (vI 0)),oM 2 t119]) (.cn [2] .ret)))))
theorem zal_chk:chk Tryd.prog 39 []=some (zal_q.erase,[.tmp 2],120):=by kernel_rfl
def qD6 (open_:List (Int × MapC × Unit)):Option (((List (Int × MapC × Unit))) ⊕ ((List (Int × MapC × Unit)))) :=
 gd ((decide ((0:Int)<(open_.length:Int)))=true→InI64 ((open_.length:Int) - (1:Int))) <|
 gd ((decide ((0:Int)<(open_.length:Int)))=true→0≤((open_.length:Int) - (1:Int))∧((open_.length:Int) - (1:Int))<open_.length) <|
 gd ((decide ((0:Int)<(open_.length:Int)))=true→(Int.toNat ((open_.length:Int) - (1:Int)))<open_.length) <|
 gd ((decide ((0:Int)<(open_.length:Int)))=true→(Int.toNat ((open_.length:Int) - (1:Int)))<open_.length) <|
 bif ((decide ((0:Int)<(open_.length:Int))) && (decide (((open_.getD (Int.toNat ((open_.length:Int) - (1:Int))) (NT.dft [.int .i64,.map])).1)=(0:Int)))) then (
  gd (InI64 ((open_.length:Int) - (1:Int))) <|
  gd (0≤((open_.length:Int) - (1:Int))∧((open_.length:Int) - (1:Int))≤open_.length) <|
  some (.inl (open_.take (Int.toNat ((open_.length:Int) - (1:Int))))))
 else (
  some (.inr open_))
def zal_p3 (open_:List (Int × MapC × Unit)):Option ((List (Int × MapC × Unit))) :=
 qBg (fun x:((List (Int × MapC × Unit)))=>qD6 x) open_
def zal_p2 (open_:List (Int × MapC × Unit)):Option ((List (Int × MapC × Unit))) :=
 (zal_p3 open_).bind fun o19 =>
 some o19
def zal_p1 (open_:List (Int × MapC × Unit)) (n_Kind n_Kids:Int):Option (Bool ⊕ ((List (Int × MapC × Unit)))) :=
 bif ((decide (n_Kind=(6:Int))) || (decide (n_Kind=(7:Int)))) then (
  bif decide ((32:Int)<(open_.length:Int)) then (
   some (.inl false))
  else (
   bif decide (n_Kind=(7:Int)) then (
    gd (open_.length+([(n_Kids,(some []),())]:List (Int × MapC × Unit)).length≤9223372036854775807∧(open_.length+([(n_Kids,(some []),())]:List (Int × MapC × Unit)).length)*16≤140737488355328) <|
    (zal_p2 (open_++[(n_Kids,(some []),())])).bind fun o20 =>
    some (.inr o20))
   else (
    gd (open_.length+([(n_Kids,(none:MapC),())]:List (Int × MapC × Unit)).length≤9223372036854775807∧(open_.length+([(n_Kids,(none:MapC),())]:List (Int × MapC × Unit)).length)*16≤140737488355328) <|
    (zal_p2 (open_++[(n_Kids,(none:MapC),())])).bind fun o21 =>
    some (.inr o21))))
 else (
  (zal_p2 open_).bind fun o22 =>
  some (.inr o22))
def qCl (x11_ x12_:Int) (x10_:List Eng.Node) (open_:List (Int × MapC × Unit)):Option ((Int × (List (Int × MapC × Unit))) ⊕ (Bool ⊕ ((List (Int × MapC × Unit))))) :=
 bif decide (x12_<x11_) then (
  gd (0≤x12_∧x12_<x10_.length) <|
  gd ((Int.toNat x12_)<x10_.length) <|
  bif decide ((open_.length:Int)=(0:Int)) then (
   some (.inr (.inl false)))
  else (
   (zan_s (x10_.getD (Int.toNat x12_) (ET.dft .node))).bind fun r17 =>
   bif (!r17) then (
    some (.inr (.inl false)))
   else (
    gd (InI64 ((open_.length:Int) - (1:Int))) <|
    gd (0≤((open_.length:Int) - (1:Int))∧((open_.length:Int) - (1:Int))<open_.length) <|
    gd ((Int.toNat ((open_.length:Int) - (1:Int)))<open_.length) <|
    gd ((Int.toNat ((open_.length:Int) - (1:Int)))<open_.length) <|
    gd ((Int.toNat ((open_.length:Int) - (1:Int)))<open_.length) <|
    gd (InI64 (((open_.getD (Int.toNat ((open_.length:Int) - (1:Int))) (NT.dft [.int .i64,.map])).1) - (1:Int))) <|
    gd ((Int.toNat ((open_.length:Int) - (1:Int)))<open_.length) <|
    gd ((Int.toNat ((open_.length:Int) - (1:Int)))<open_.length) <|
    gd ((Int.toNat ((open_.length:Int) - (1:Int)))<open_.length) <|
    gd ((Int.toNat ((open_.length:Int) - (1:Int)))<(open_.set (Int.toNat ((open_.length:Int) - (1:Int))) ((((open_.getD (Int.toNat ((open_.length:Int) - (1:Int))) (NT.dft [.int .i64,.map])).1) - (1:Int)),(open_.getD (Int.toNat ((open_.length:Int) - (1:Int))) (NT.dft [.int .i64,.map])).2)).length) <|
    gd ((Int.toNat ((open_.length:Int) - (1:Int)))<(open_.set (Int.toNat ((open_.length:Int) - (1:Int))) ((((open_.getD (Int.toNat ((open_.length:Int) - (1:Int))) (NT.dft [.int .i64,.map])).1) - (1:Int)),(open_.getD (Int.toNat ((open_.length:Int) - (1:Int))) (NT.dft [.int .i64,.map])).2)).length) <|
    gd ((Int.toNat ((open_.length:Int) - (1:Int)))<(open_.set (Int.toNat ((open_.length:Int) - (1:Int))) ((((open_.getD (Int.toNat ((open_.length:Int) - (1:Int))) (NT.dft [.int .i64,.map])).1) - (1:Int)),(open_.getD (Int.toNat ((open_.length:Int) - (1:Int))) (NT.dft [.int .i64,.map])).2)).length) <|
    gd ((Int.toNat ((open_.length:Int) - (1:Int)))<(open_.set (Int.toNat ((open_.length:Int) - (1:Int))) ((((open_.getD (Int.toNat ((open_.length:Int) - (1:Int))) (NT.dft [.int .i64,.map])).1) - (1:Int)),(open_.getD (Int.toNat ((open_.length:Int) - (1:Int))) (NT.dft [.int .i64,.map])).2)).length) <|
    gd ((((((open_.set (Int.toNat ((open_.length:Int) - (1:Int))) ((((open_.getD (Int.toNat ((open_.length:Int) - (1:Int))) (NT.dft [.int .i64,.map])).1) - (1:Int)),(open_.getD (Int.toNat ((open_.length:Int) - (1:Int))) (NT.dft [.int .i64,.map])).2)).getD (Int.toNat ((open_.length:Int) - (1:Int))) (NT.dft [.int .i64,.map])).2.1).isNone) && (!decide (((x10_.getD (Int.toNat x12_) (ET.dft .node)).key)=(⟨#[]⟩:ByteArray))))=false→(Int.toNat ((open_.length:Int) - (1:Int)))<(open_.set (Int.toNat ((open_.length:Int) - (1:Int))) ((((open_.getD (Int.toNat ((open_.length:Int) - (1:Int))) (NT.dft [.int .i64,.map])).1) - (1:Int)),(open_.getD (Int.toNat ((open_.length:Int) - (1:Int))) (NT.dft [.int .i64,.map])).2)).length) <|
    gd ((((((open_.set (Int.toNat ((open_.length:Int) - (1:Int))) ((((open_.getD (Int.toNat ((open_.length:Int) - (1:Int))) (NT.dft [.int .i64,.map])).1) - (1:Int)),(open_.getD (Int.toNat ((open_.length:Int) - (1:Int))) (NT.dft [.int .i64,.map])).2)).getD (Int.toNat ((open_.length:Int) - (1:Int))) (NT.dft [.int .i64,.map])).2.1).isNone) && (!decide (((x10_.getD (Int.toNat x12_) (ET.dft .node)).key)=(⟨#[]⟩:ByteArray))))=false→(Int.toNat ((open_.length:Int) - (1:Int)))<(open_.set (Int.toNat ((open_.length:Int) - (1:Int))) ((((open_.getD (Int.toNat ((open_.length:Int) - (1:Int))) (NT.dft [.int .i64,.map])).1) - (1:Int)),(open_.getD (Int.toNat ((open_.length:Int) - (1:Int))) (NT.dft [.int .i64,.map])).2)).length) <|
    gd ((((((open_.set (Int.toNat ((open_.length:Int) - (1:Int))) ((((open_.getD (Int.toNat ((open_.length:Int) - (1:Int))) (NT.dft [.int .i64,.map])).1) - (1:Int)),(open_.getD (Int.toNat ((open_.length:Int) - (1:Int))) (NT.dft [.int .i64,.map])).2)).getD (Int.toNat ((open_.length:Int) - (1:Int))) (NT.dft [.int .i64,.map])).2.1).isNone) && (!decide (((x10_.getD (Int.toNat x12_) (ET.dft .node)).key)=(⟨#[]⟩:ByteArray))))=false→(Int.toNat ((open_.length:Int) - (1:Int)))<(open_.set (Int.toNat ((open_.length:Int) - (1:Int))) ((((open_.getD (Int.toNat ((open_.length:Int) - (1:Int))) (NT.dft [.int .i64,.map])).1) - (1:Int)),(open_.getD (Int.toNat ((open_.length:Int) - (1:Int))) (NT.dft [.int .i64,.map])).2)).length) <|
    gd ((((((open_.set (Int.toNat ((open_.length:Int) - (1:Int))) ((((open_.getD (Int.toNat ((open_.length:Int) - (1:Int))) (NT.dft [.int .i64,.map])).1) - (1:Int)),(open_.getD (Int.toNat ((open_.length:Int) - (1:Int))) (NT.dft [.int .i64,.map])).2)).getD (Int.toNat ((open_.length:Int) - (1:Int))) (NT.dft [.int .i64,.map])).2.1).isNone) && (!decide (((x10_.getD (Int.toNat x12_) (ET.dft .node)).key)=(⟨#[]⟩:ByteArray))))=false→(Int.toNat ((open_.length:Int) - (1:Int)))<(open_.set (Int.toNat ((open_.length:Int) - (1:Int))) ((((open_.getD (Int.toNat ((open_.length:Int) - (1:Int))) (NT.dft [.int .i64,.map])).1) - (1:Int)),(open_.getD (Int.toNat ((open_.length:Int) - (1:Int))) (NT.dft [.int .i64,.map])).2)).length) <|
    (qBb ((x10_.getD (Int.toNat x12_) (ET.dft .node)).key)).bind fun r18 =>
    bif (((((((open_.set (Int.toNat ((open_.length:Int) - (1:Int))) ((((open_.getD (Int.toNat ((open_.length:Int) - (1:Int))) (NT.dft [.int .i64,.map])).1) - (1:Int)),(open_.getD (Int.toNat ((open_.length:Int) - (1:Int))) (NT.dft [.int .i64,.map])).2)).getD (Int.toNat ((open_.length:Int) - (1:Int))) (NT.dft [.int .i64,.map])).2.1).isNone) && (!decide (((x10_.getD (Int.toNat x12_) (ET.dft .node)).key)=(⟨#[]⟩:ByteArray)))) || (decide ((0:Int)<(mget (((open_.set (Int.toNat ((open_.length:Int) - (1:Int))) ((((open_.getD (Int.toNat ((open_.length:Int) - (1:Int))) (NT.dft [.int .i64,.map])).1) - (1:Int)),(open_.getD (Int.toNat ((open_.length:Int) - (1:Int))) (NT.dft [.int .i64,.map])).2)).getD (Int.toNat ((open_.length:Int) - (1:Int))) (NT.dft [.int .i64,.map])).2.1) ((x10_.getD (Int.toNat x12_) (ET.dft .node)).key))))) || (!r18)) then (
     some (.inr (.inl false)))
    else (
     gd ((Int.toNat ((open_.length:Int) - (1:Int)))<(open_.set (Int.toNat ((open_.length:Int) - (1:Int))) ((((open_.getD (Int.toNat ((open_.length:Int) - (1:Int))) (NT.dft [.int .i64,.map])).1) - (1:Int)),(open_.getD (Int.toNat ((open_.length:Int) - (1:Int))) (NT.dft [.int .i64,.map])).2)).length) <|
     gd ((Int.toNat ((open_.length:Int) - (1:Int)))<(open_.set (Int.toNat ((open_.length:Int) - (1:Int))) ((((open_.getD (Int.toNat ((open_.length:Int) - (1:Int))) (NT.dft [.int .i64,.map])).1) - (1:Int)),(open_.getD (Int.toNat ((open_.length:Int) - (1:Int))) (NT.dft [.int .i64,.map])).2)).length) <|
     gd ((Int.toNat ((open_.length:Int) - (1:Int)))<(open_.set (Int.toNat ((open_.length:Int) - (1:Int))) ((((open_.getD (Int.toNat ((open_.length:Int) - (1:Int))) (NT.dft [.int .i64,.map])).1) - (1:Int)),(open_.getD (Int.toNat ((open_.length:Int) - (1:Int))) (NT.dft [.int .i64,.map])).2)).length) <|
     gd ((Int.toNat ((open_.length:Int) - (1:Int)))<(open_.set (Int.toNat ((open_.length:Int) - (1:Int))) ((((open_.getD (Int.toNat ((open_.length:Int) - (1:Int))) (NT.dft [.int .i64,.map])).1) - (1:Int)),(open_.getD (Int.toNat ((open_.length:Int) - (1:Int))) (NT.dft [.int .i64,.map])).2)).length) <|
     bif (((open_.set (Int.toNat ((open_.length:Int) - (1:Int))) ((((open_.getD (Int.toNat ((open_.length:Int) - (1:Int))) (NT.dft [.int .i64,.map])).1) - (1:Int)),(open_.getD (Int.toNat ((open_.length:Int) - (1:Int))) (NT.dft [.int .i64,.map])).2)).getD (Int.toNat ((open_.length:Int) - (1:Int))) (NT.dft [.int .i64,.map])).2.1).isSome then (
      gd ((Int.toNat ((open_.length:Int) - (1:Int)))<(open_.set (Int.toNat ((open_.length:Int) - (1:Int))) ((((open_.getD (Int.toNat ((open_.length:Int) - (1:Int))) (NT.dft [.int .i64,.map])).1) - (1:Int)),(open_.getD (Int.toNat ((open_.length:Int) - (1:Int))) (NT.dft [.int .i64,.map])).2)).length) <|
      gd ((Int.toNat ((open_.length:Int) - (1:Int)))<(open_.set (Int.toNat ((open_.length:Int) - (1:Int))) ((((open_.getD (Int.toNat ((open_.length:Int) - (1:Int))) (NT.dft [.int .i64,.map])).1) - (1:Int)),(open_.getD (Int.toNat ((open_.length:Int) - (1:Int))) (NT.dft [.int .i64,.map])).2)).length) <|
      gd ((Int.toNat ((open_.length:Int) - (1:Int)))<(open_.set (Int.toNat ((open_.length:Int) - (1:Int))) ((((open_.getD (Int.toNat ((open_.length:Int) - (1:Int))) (NT.dft [.int .i64,.map])).1) - (1:Int)),(open_.getD (Int.toNat ((open_.length:Int) - (1:Int))) (NT.dft [.int .i64,.map])).2)).length) <|
      gd ((Int.toNat ((open_.length:Int) - (1:Int)))<(open_.set (Int.toNat ((open_.length:Int) - (1:Int))) ((((open_.getD (Int.toNat ((open_.length:Int) - (1:Int))) (NT.dft [.int .i64,.map])).1) - (1:Int)),(open_.getD (Int.toNat ((open_.length:Int) - (1:Int))) (NT.dft [.int .i64,.map])).2)).length) <|
      gd ((((open_.set (Int.toNat ((open_.length:Int) - (1:Int))) ((((open_.getD (Int.toNat ((open_.length:Int) - (1:Int))) (NT.dft [.int .i64,.map])).1) - (1:Int)),(open_.getD (Int.toNat ((open_.length:Int) - (1:Int))) (NT.dft [.int .i64,.map])).2)).getD (Int.toNat ((open_.length:Int) - (1:Int))) (NT.dft [.int .i64,.map])).2.1).isSome=true) <|
      (zal_p1 ((open_.set (Int.toNat ((open_.length:Int) - (1:Int))) ((((open_.getD (Int.toNat ((open_.length:Int) - (1:Int))) (NT.dft [.int .i64,.map])).1) - (1:Int)),(open_.getD (Int.toNat ((open_.length:Int) - (1:Int))) (NT.dft [.int .i64,.map])).2)).set (Int.toNat ((open_.length:Int) - (1:Int))) (((open_.set (Int.toNat ((open_.length:Int) - (1:Int))) ((((open_.getD (Int.toNat ((open_.length:Int) - (1:Int))) (NT.dft [.int .i64,.map])).1) - (1:Int)),(open_.getD (Int.toNat ((open_.length:Int) - (1:Int))) (NT.dft [.int .i64,.map])).2)).getD (Int.toNat ((open_.length:Int) - (1:Int))) (NT.dft [.int .i64,.map])).1,((mput (((open_.set (Int.toNat ((open_.length:Int) - (1:Int))) ((((open_.getD (Int.toNat ((open_.length:Int) - (1:Int))) (NT.dft [.int .i64,.map])).1) - (1:Int)),(open_.getD (Int.toNat ((open_.length:Int) - (1:Int))) (NT.dft [.int .i64,.map])).2)).getD (Int.toNat ((open_.length:Int) - (1:Int))) (NT.dft [.int .i64,.map])).2.1) ((x10_.getD (Int.toNat x12_) (ET.dft .node)).key) (1:Int)),(((open_.set (Int.toNat ((open_.length:Int) - (1:Int))) ((((open_.getD (Int.toNat ((open_.length:Int) - (1:Int))) (NT.dft [.int .i64,.map])).1) - (1:Int)),(open_.getD (Int.toNat ((open_.length:Int) - (1:Int))) (NT.dft [.int .i64,.map])).2)).getD (Int.toNat ((open_.length:Int) - (1:Int))) (NT.dft [.int .i64,.map])).2).2))) ((x10_.getD (Int.toNat x12_) (ET.dft .node)).kind) ((x10_.getD (Int.toNat x12_) (ET.dft .node)).kids)).bind fun o23=>(Sum.elim (fun (o23_0:Bool) =>
       some (.inr (.inl o23_0))) (fun (o23_1:(List (Int × MapC × Unit))) =>
       gd (InI64 (x12_+(1:Int))) <|
       some (.inl ((x12_+(1:Int)),o23_1)))) o23)
     else (
      (zal_p1 (open_.set (Int.toNat ((open_.length:Int) - (1:Int))) ((((open_.getD (Int.toNat ((open_.length:Int) - (1:Int))) (NT.dft [.int .i64,.map])).1) - (1:Int)),(open_.getD (Int.toNat ((open_.length:Int) - (1:Int))) (NT.dft [.int .i64,.map])).2)) ((x10_.getD (Int.toNat x12_) (ET.dft .node)).kind) ((x10_.getD (Int.toNat x12_) (ET.dft .node)).kids)).bind fun o24=>(Sum.elim (fun (o24_0:Bool) =>
       some (.inr (.inl o24_0))) (fun (o24_1:(List (Int × MapC × Unit))) =>
       gd (InI64 (x12_+(1:Int))) <|
       some (.inl ((x12_+(1:Int)),o24_1)))) o24)))))
 else (
  some (.inr (.inr open_)))
def zal_p0 (x11_ x12_:Int) (x10_:List Eng.Node) (open_:List (Int × MapC × Unit)):Option (Bool ⊕ ((List (Int × MapC × Unit)))) :=
 qBg (fun x:(Int × (List (Int × MapC × Unit)))=>qCl x11_ x.1 x10_ x.2) (x12_,open_)
def zal_s (v:(List Eng.Node)):Option Bool :=
 (zal_p0 (v.length:Int) (0:Int) v [((1:Int),(none:MapC),())]).bind fun o25=>(Sum.elim (fun (o25_0:Bool) =>
  some o25_0) (fun (o25_1:(List (Int × MapC × Unit))) =>
  some (decide ((o25_1.length:Int)=(0:Int))))) o25
def zal_G:Nat→Option CQ:=tblQ [(78,zan_w),(79,qDy)]
theorem zal_Gok:∀f C,zal_G f=some C→qAe Tryd.prog f C:=qAj ⟨zan_ok,qFk,trivial⟩
def zal_d3:=(dQS (dCons (dSO 3 (dBsl 1)) (dCons (dSO 10 (dO 0)) (dCons (dSO 11 dZ) (dCons (dSO 12 dZ) dNil)))) (dCons (dView .node) (dCons (dBag [.int .i64,.map] 101) dNil)))
def zal_l3:SubQ:=mkL zal_d3 (fun x=>zal_p3 x.2.2.1) fun x r R kn kx kr=>kx 3 ⟨[sL 3 (.bsl 1),sL 10 (.own 0),sL 11 (.vI x.1.2.2.1),sL 12 (.vI x.1.2.2.2.1)],[],[.view .node x.2.1,.bag [.int .i64,.map] 101 r]⟩
def zal_d2:=(dQS (dCons (dSO 3 (dBsl 1)) (dCons (dSO 10 (dO 0)) (dCons (dSO 11 dZ) (dCons (dSO 12 dZ) dNil)))) (dCons (dView .node) (dCons (dBag [.int .i64,.map] 101) dNil)))
def zal_l2:SubQ:=mkL zal_d2 (fun x=>zal_p2 x.2.2.1) fun x r R kn kx kr=>kn ⟨[sL 3 (.bsl 1),sL 10 (.own 0),sL 11 (.vI x.1.2.2.1),sL 12 (.vI x.1.2.2.2.1)],[],[.view .node x.2.1,.bag [.int .i64,.map] 101 r]⟩
def zal_d1:=(dQS (dCons (dSO 3 (dBsl 1)) (dCons (dSO 5 (dH 2 0)) (dCons (dSO 10 (dO 0)) (dCons (dSO 11 dZ) (dCons (dSO 12 dZ) dNil))))) (dCons (dView .node) (dCons (dBag [.int .i64,.map] 101) (dCons (qAq 36 (dCons dZ (dCons dS (dCons dS (dCons dB (dCons dZ (dCons dZ dNil))))))) dNil))))
def zal_l1:SubQ:=mkL zal_d1 (fun x=>zal_p1 x.2.2.1 x.2.2.2.1.1 x.2.2.2.1.2.2.2.2.2.1) fun x r R kn kx kr=>(Sum.elim (fun (r_0:Bool)=>kr ⟨[sL 2 (.vB r_0)],[],[.view .node x.2.1]⟩) (fun (r_1:(List (Int × MapC × Unit)))=>kn ⟨[sL 3 (.bsl 1),sL 10 (.own 0),sL 11 (.vI x.1.2.2.2.1),sL 12 (.vI x.1.2.2.2.2.1)],[],[.view .node x.2.1,.bag [.int .i64,.map] 101 r_1]⟩)) r
def zal_d0:=(dQS (dCons (dSO 3 (dBsl 1)) (dCons (dSO 10 (dO 0)) (dCons (dSO 11 dZ) (dCons (dSO 12 dZ) dNil)))) (dCons (dView .node) (dCons (dBag [.int .i64,.map] 101) dNil)))
def zal_l0:SubQ:=mkL zal_d0 (fun x=>zal_p0 x.1.2.2.1 x.1.2.2.2.1 x.2.1 x.2.2.1) fun x r R kn kx kr=>(Sum.elim (fun (r_0:Bool)=>kr ⟨[sL 2 (.vB r_0)],[],[.view .node x.2.1]⟩) (fun (r_1:(List (Int × MapC × Unit)))=>kx 0 ⟨[sL 3 (.bsl 1)],[],[.view .node x.2.1,.bag [.int .i64,.map] 101 r_1]⟩)) r
def zal_L:Nat→SubQ:=tblL [(3,zal_l3),(2,zal_l2),(1,zal_l1),(0,zal_l0)]
theorem zal_sub3:SubOK zal_L zal_G 1 13 120 3 zal_b3:=qAz (show zal_L 3=zal_l3 from by kernel_rfl) fun x R kn kx kr=>qA0 (step:=fun y=>qD6 y) (enc:=fun (y:(List (Int × MapC × Unit)))=>zal_d3.e (x.1,(x.2.1,y,x.2.2.2))) (fun y=>by kernel_rfl) (fun y ki=>by simp only [qD6,-eq_self,qAc,qAf,obA,obS,slL,slR,qAb]; kernel_rfl) x.2.2.1
theorem zal_sub2:SubOK zal_L zal_G 1 13 120 2 zal_b2:=qAz (show zal_L 2=zal_l2 from by kernel_rfl) fun x R kn kx kr=>by
 simp only [zal_p2,-eq_self,qAc,qAf,obA,obS,slL,slR,qAb]
 kernel_rfl
theorem zal_sub1:SubOK zal_L zal_G 1 13 120 1 zal_b1:=qAz (show zal_L 1=zal_l1 from by kernel_rfl) fun x R kn kx kr=>by
 simp only [zal_p1,-eq_self,qAc,qAf,obA,obS,slL,slR,qAb]
 kernel_rfl
theorem zal_sub0:SubOK zal_L zal_G 1 13 120 0 zal_b0:=qAz (show zal_L 0=zal_l0 from by kernel_rfl) fun x R kn kx kr=>qA0 (step:=fun y=>qCl x.1.2.2.1 y.1 x.2.1 y.2) (enc:=fun (y:Int × (List (Int × MapC × Unit)))=>zal_d0.e ((x.1.1,x.1.2.1,x.1.2.2.1,y.1,x.1.2.2.2.2),(x.2.1,y.2,x.2.2.2))) (fun y=>by kernel_rfl) (fun y ki=>by simp only [qCl,-eq_self,qAc,qAf,obA,obS,slL,slR,qAb]; kernel_rfl) (x.1.2.2.2.1,x.2.2.1)
theorem zal_subs:qAo zal_L zal_G 1 13 120 zal_q:=qAl (show qAp zal_L zal_G 1 13 120 [(0,zal_b0),(1,zal_b1),(2,zal_b2),(3,zal_b3)] from ⟨zal_sub0,zal_sub1,zal_sub2,zal_sub3,trivial⟩)
def zal_da:=(dCons (dVC (dCO (dO 0))) dNil)
def zal_db:=(dCons (dView .node) dNil)
def zal_c:CS:=mkC zal_da zal_db (fun x y=>zal_s y.1) (fun x y r=>.c (.o (.vB r))) fun x y r=>[.view .node y.1]
theorem zal_val:qAm Tryd.prog 39 zal_c:=qAn zal_chk 13 zal_Gok 1 (fun x=>Nat.le_of_ble_eq_true rfl) (fun y=>rfl) zal_subs fun x y=>by
 simp only [zal_s,-eq_self,qAc,qAf,obA,obS,slL,slR,qAb]
 kernel_rfl
def zal_w:CQ:=prepQ [(0,none,some (.node,36))] (liftV [false] zal_c)
theorem zal_ok:qAe Tryd.prog 39 zal_w:=qE4 zal_val
end
end Go.Proofs.YtdcoiccdbgcpaaaDoor
