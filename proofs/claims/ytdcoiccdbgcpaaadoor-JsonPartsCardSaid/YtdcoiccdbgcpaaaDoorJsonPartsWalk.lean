/-
  JsonParts: its call returns true.
-/
import Derived.Below
import Derived.Carry
import Derived.Lib.LaidU8
import Derived.Shelf.Lay
import Derived.Ground.NamesProg
import Derived.Test.YtdcoiccdbgcpaaaDoorEngO
import Derived.Test.YtdcoiccdbgcpaaaDoorProg
import Derived.Test.YtdcoiccdbgcpaaaDoorUtf8
import Derived.Test.YtdcoiccdbgcpaaaDoorGC
import Derived.Test.YtdcoiccdbgcpaaaDoorPShaped
import Derived.Test.YtdcoiccdbgcpaaaDoorJS
import Derived.Test.YtdcoiccdbgcpaaaDoorJP
import Derived.Test.YtdcoiccdbgcpaaaDoorPLexQ
import Derived.Test.YtdcoiccdbgcpaaaDoorJW
import Derived.Test.YtdcoiccdbgcpaaaDoorPJBack
import Derived.Test.YtdcoiccdbgcpaaaDoorEngN
import Derived.Test.YtdcoiccdbgcpaaaDoorRows
namespace Go.Proofs.YtdcoiccdbgcpaaaDoor
open Go.Eng
set_option linter.unusedVariables false
set_option linter.unusedSimpArgs false
set_option maxRecDepth 100000
noncomputable section
def zbl_b1:IQ:=(.loop [3,6,7,8,9] (.seq (.seq (rg 39 [oM 36 t9,oM 37 t7,oP 38 (.len t37),oP 39 (.bi .lss t36 t38)]) (.cond t39 .skip (.cn [3,6,7,8] (.exit 2)))) (.seq (.block 3 (.seq (.seq (rg 47 [oM 42 t7,oM 43 t9,oP 44 (.iaddr 1 t42 t43),oP 45 (.load none t44),oM 46 t8,oP 47 (.bi .neq t45 t46)]) (.cond t47 (.seq (rg 2 [oP 2 (.mv vF)]) (.cn [2] .ret)) .skip)) (.seq (rg 8 [oM 48 t3,oM 49 t7,oM 50 t9,oP 51 (.iaddr 1 t49 t50),oP 52 (.load none t51),oP 53 (.call 26 [t48,t52]),oM 8 t53]) (.seq (.reg 77 (some [0,1,2,3,4,5,6,7,8,9,10,11,12,13,14,15,16,18,19,20,21,17,22,23]) [oM 54 t3,oM 55 t6,oP 56 (.iaddr 6 t54 t55),oP 57 (.faddr 0 t56),oP 58 (.load none t57),oP 59 (.bi .eql t58 (vI 7)),oM 60 t59,oF 61 (.mv t3) 60,oF 62 (.mv t6) 60,oF 63 (.mv t3) 60,oF 64 (.mv t7) 60,oF 65 (.mv t9) 60,oF 66 (.iaddr 1 t64 t65) 60,oF 67 (.load none t66) 60,oF 68 (.iaddr 6 t63 t67) 60,oF 69 (.faddr 1 t68) 60,oF 70 (.load none t69) 60,oF 72 (.mv t7) 60,oF 73 (.mv t9) 60,oF 74 (.iaddr 1 t72 t73) 60,oF 75 (.load none t74) 60,oF 71 (.call 24 [t61,t62,t70]) 60,oF 76 (.bi .neq t71 t75) 60,oP 77 (.pick t60 t76 vF)]) (.cond t77 (.seq (rg 2 [oP 2 (.mv vF)]) (.cn [2] .ret)) .skip))))) (rg 9 [oM 40 t9,oP 41 (.bi .add t40 (vI 1)),oM 9 t41]))))
def zbl_b0:IQ:=(.loop [3,6] (.seq (.seq (rg 28 [oM 21 t6,oM 22 t3,oP 23 (.len t22),oP 24 (.bi .lss t21 t23),oM 25 t24,oF 26 (.mv t6) 25,oF 27 (.bi .lss t26 (vI 200)) 25,oP 28 (.pick t25 t27 vF)]) (.cond t28 .skip (.cn [3] (.exit 0)))) (.seq (.block 1 (.seq (rg 7 [oM 31 t3,oM 32 t6,oP 33 (.call 25 [t31,t32]),oM 7 t33]) (.seq (rg 8 [oM 34 t6,oP 35 (.bi .add t34 (vI 1)),oM 8 t35]) (.seq (.seq (rg 9 [oP 9 (.mv (vI 0))]) (.block 2 (.cn [3,6,7,8,9] (.sub 1 zbl_b1)))) (.seq (.seq (rg 106 [oM 78 t8,oM 79 t3,oM 80 t6,oP 81 (.call 26 [t79,t80]),oP 82 (.bi .neq t78 t81),oM 83 t82,oE 84 (.mv t7) 83,oE 85 (.len t84) 83,oE 86 (.mv t3) 83,oE 87 (.mv t6) 83,oE 88 (.iaddr 6 t86 t87) 83,oE 89 (.faddr 5 t88) 83,oE 90 (.load none t89) 83,oE 91 (.bi .neq t85 t90) 83,oP 92 (.pick t83 vT t91),oM 93 t92,oE 94 (.mv t3) 93,oE 95 (.mv t6) 93,oE 96 (.iaddr 6 t94 t95) 93,oE 97 (.faddr 0 t96) 93,oE 98 (.load none t97) 93,oE 99 (.bi .neq t98 (vI 7)) 93,oE 100 (.mv t99) 93,oF 101 (.mv t3) 100,oF 102 (.mv t6) 100,oF 103 (.call 24 [t101,t102,(.v (.string ⟨#[]⟩))]) 100,oF 104 (.bi .neq t103 (.v (.int .i64 (-1)))) 100,oE 105 (.pick t100 t104 vF) 93,oP 106 (.pick t93 vT t105)]) (.cond t106 (.seq (rg 2 [oP 2 (.mv vF)]) (.cn [2] .ret)) .skip)) (.seq (rg 10 [oP 10 (.mv (.v (.slice none 0 0)))]) (.seq (rg 10 [oM 107 t10,oM 108 t3,oM 109 t6,oM 110 t8,oP 111 (.sub (some 6) t108 (some t109) (some t110)),oP 112 (.append 36 6 64 [.int .i64 0,.string ⟨#[]⟩,.string ⟨#[]⟩,.bool false,.int .i64 0,.int .i64 0] t107 t111),oM 10 t112]) (.seq (rg 0 [oM 113 t10,oP 114 (.iaddr 6 t113 (vI 0)),oP 115 (.faddr 1 t114),oN (.store 1 t115 (.v (.string ⟨#[]⟩)))]) (.seq (rg 118 [oM 116 t10,oP 117 (.call 39 [t116]),oP 118 (.un .not t117)]) (.cond t118 (.seq (rg 2 [oP 2 (.mv vF)]) (.cn [2] .ret)) .skip)))))))))) (rg 6 [oM 29 t6,oP 30 (.bi .add t29 (vI 1)),oM 6 t30]))))
def zbl_q:IQ:=(.seq (rg 2 [oP 2 (.mv vF)]) (.seq (.seq (rg 12 [oP 11 (.call 45 []),oP 12 (.un .not t11)]) (.cond t12 (.seq (rg 2 [oP 2 (.mv vF)]) (.cn [2] .ret)) .skip)) (.seq (rg 5 [oM 14 t0,oP 15 (.call 42 [t14]),oM 13 t15,oP 16 (.extract t13 0),oP 17 (.extract t13 1),oP 18 (.extract t13 2),oM 3 t16,oM 4 t17,oM 5 t18]) (.seq (.seq (rg 20 [oM 19 t4,oP 20 (.bi .neq t19 (vI 0))]) (.cond t20 (.seq (rg 2 [oP 2 (.mv vT)]) (.cn [2] .ret)) .skip)) (.seq (.seq (rg 6 [oP 6 (.mv (vI 0))]) (.block 0 (.cn [3,6] (.sub 0 zbl_b0)))) (.seq (rg 2 [oM 119 t3,oP 120 (.call 26 [t119,(vI 0)]),oM 121 t3,oP 122 (.len t121),oP 123 (.bi .eql t120 t122),oM 124 t123,oF 125 (.mv t3) 124,oF 126 (.call 26 [t125,(.v (.int .i64 (-1)))]) 124,oF 127 (.bi .eql t126 (.v (.int .i64 (-1)))) 124,oP 128 (.pick t124 t127 vF),oM 129 t128,oF 130 (.mv t3) 129,oF 131 (.mv t3) 129,oF 132 (.len t131) 129,oF 133 (.call 26 [t130,t132]) 129,oF 134 (.bi .eql t133 (.v (.int .i64 (-1)))) 129,oP 135 (.pick t129 t134 vF),oM 136 t135,oF 137 (.mv t3) 136,oF 138 (.mv t3) 136,oF 139 (.len t138) 136,oF 140 (.call 25 [t137,t139]) 136,oF 141 (.len t140) 136,oF 142 (.bi .eql t141 (vI 0)) 136,oP 143 (.pick t136 t142 vF),oM 144 t143,oF 145 (.mv t3) 144,oF 146 (.call 24 [t145,(.v (.int .i64 (-1))),(.v (.string ⟨#[97]⟩))]) 144,oF 147 (.bi .eql t146 (.v (.int .i64 (-1)))) 144,oP 148 (.pick t144 t147 vF),oM 2 t148]) (.cn [2] .ret)))))))
theorem zbl_chk:chk Tryd.prog 12 []=some (zbl_q.erase,[.tmp 2],149):=by kernel_rfl
def qFu (at_ next i:Int) (v:List Eng.Node) (l:List Int):Option ((Int × Int) ⊕ (Bool ⊕ Int)) :=
 bif decide (i<(l.length:Int)) then (
  gd (0≤i∧i<l.length) <|
  gd ((Int.toNat i)<l.length) <|
  bif (!decide ((l.getD (Int.toNat i) (ET.dft .i64))=next)) then (
   some (.inr (.inl false)))
  else (
   gd (0≤i∧i<l.length) <|
   gd ((Int.toNat i)<l.length) <|
   (zah_s v (l.getD (Int.toNat i) (ET.dft .i64))).bind fun r23 =>
   gd (0≤at_∧at_<v.length) <|
   gd ((Int.toNat at_)<v.length) <|
   gd ((Int.toNat at_)<v.length) <|
   gd ((decide (((v.getD (Int.toNat at_) (ET.dft .node)).kind)=(7:Int)))=true→0≤i∧i<l.length) <|
   gd ((decide (((v.getD (Int.toNat at_) (ET.dft .node)).kind)=(7:Int)))=true→(Int.toNat i)<l.length) <|
   gd ((decide (((v.getD (Int.toNat at_) (ET.dft .node)).kind)=(7:Int)))=true→0≤(l.getD (Int.toNat i) (ET.dft .i64))∧(l.getD (Int.toNat i) (ET.dft .i64))<v.length) <|
   gd ((decide (((v.getD (Int.toNat at_) (ET.dft .node)).kind)=(7:Int)))=true→(Int.toNat (l.getD (Int.toNat i) (ET.dft .i64)))<v.length) <|
   gd ((decide (((v.getD (Int.toNat at_) (ET.dft .node)).kind)=(7:Int)))=true→(Int.toNat (l.getD (Int.toNat i) (ET.dft .i64)))<v.length) <|
   gd ((decide (((v.getD (Int.toNat at_) (ET.dft .node)).kind)=(7:Int)))=true→0≤i∧i<l.length) <|
   gd ((decide (((v.getD (Int.toNat at_) (ET.dft .node)).kind)=(7:Int)))=true→(Int.toNat i)<l.length) <|
   (zaj_s v at_ ((v.getD (Int.toNat (l.getD (Int.toNat i) (ET.dft .i64))) (ET.dft .node)).key)).bind fun r24 =>
   bif ((decide (((v.getD (Int.toNat at_) (ET.dft .node)).kind)=(7:Int))) && (!decide (r24=(l.getD (Int.toNat i) (ET.dft .i64))))) then (
    some (.inr (.inl false)))
   else (
    gd (qAe (i+(1:Int))) <|
    some (.inl (r23,(i+(1:Int)))))))
 else (
  some (.inr (.inr next)))
def zbl_p1 (at_ next i:Int) (v:List Eng.Node) (l:List Int):Option (Bool ⊕ Int) :=
 qBf (fun x:(Int × Int)=>qFu at_ x.1 x.2 v l) (next,i)
def qEq (at_:Int) (v:List Eng.Node):Option (Int ⊕ (Bool ⊕ Unit)) :=
 bif ((decide (at_<(v.length:Int))) && (decide (at_<(200:Int)))) then (
  (zai_s v at_).bind fun r22 =>
  gd (qAe (at_+(1:Int))) <|
  (zbl_p1 at_ (at_+(1:Int)) (0:Int) v r22).bind fun o25=>(Sum.elim (fun (o25_0:Bool) =>
   some (.inr (.inl o25_0))) (fun (o25_1:Int) =>
   (zah_s v at_).bind fun r26 =>
   gd ((!decide (o25_1=r26))=false→0≤at_∧at_<v.length) <|
   gd ((!decide (o25_1=r26))=false→(Int.toNat at_)<v.length) <|
   gd ((!decide (o25_1=r26))=false→(Int.toNat at_)<v.length) <|
   gd (((!decide (o25_1=r26)) || (!decide ((r22.length:Int)=((v.getD (Int.toNat at_) (ET.dft .node)).kids))))=false→0≤at_∧at_<v.length) <|
   gd (((!decide (o25_1=r26)) || (!decide ((r22.length:Int)=((v.getD (Int.toNat at_) (ET.dft .node)).kids))))=false→(Int.toNat at_)<v.length) <|
   gd (((!decide (o25_1=r26)) || (!decide ((r22.length:Int)=((v.getD (Int.toNat at_) (ET.dft .node)).kids))))=false→(Int.toNat at_)<v.length) <|
   bif ((!decide (o25_1=r26)) || (!decide ((r22.length:Int)=((v.getD (Int.toNat at_) (ET.dft .node)).kids)))) then (
    some (.inr (.inl false)))
   else (
    bif (!decide (((v.getD (Int.toNat at_) (ET.dft .node)).kind)=(7:Int))) then (
     (zaj_s v at_ (⟨#[]⟩:BA)).bind fun r27 =>
     bif (!decide (r27=(-1:Int))) then (
      some (.inr (.inl false)))
     else (
      gd (0≤at_∧at_≤o25_1∧o25_1≤v.length) <|
      gd ((Int.toNat at_)+((Int.toNat o25_1) - (Int.toNat at_))≤v.length) <|
      gd (((v.drop (Int.toNat at_)).take ((Int.toNat o25_1) - (Int.toNat at_))).length≤9223372036854775807∧((v.drop (Int.toNat at_)).take ((Int.toNat o25_1) - (Int.toNat at_))).length*64≤140737488355328) <|
      gd (0≤(0:Int)∧(0:Int)<((v.drop (Int.toNat at_)).take ((Int.toNat o25_1) - (Int.toNat at_))).length) <|
      gd ((Int.toNat (0:Int))<((v.drop (Int.toNat at_)).take ((Int.toNat o25_1) - (Int.toNat at_))).length) <|
      gd ((Int.toNat (0:Int))<((v.drop (Int.toNat at_)).take ((Int.toNat o25_1) - (Int.toNat at_))).length) <|
      (zam_s (((v.drop (Int.toNat at_)).take ((Int.toNat o25_1) - (Int.toNat at_))).set (Int.toNat (0:Int)) (⟨(((v.drop (Int.toNat at_)).take ((Int.toNat o25_1) - (Int.toNat at_))).getD (Int.toNat (0:Int)) (ET.dft .node)).kind,(⟨#[]⟩:BA),(((v.drop (Int.toNat at_)).take ((Int.toNat o25_1) - (Int.toNat at_))).getD (Int.toNat (0:Int)) (ET.dft .node)).text,(((v.drop (Int.toNat at_)).take ((Int.toNat o25_1) - (Int.toNat at_))).getD (Int.toNat (0:Int)) (ET.dft .node)).whole,(((v.drop (Int.toNat at_)).take ((Int.toNat o25_1) - (Int.toNat at_))).getD (Int.toNat (0:Int)) (ET.dft .node)).int,(((v.drop (Int.toNat at_)).take ((Int.toNat o25_1) - (Int.toNat at_))).getD (Int.toNat (0:Int)) (ET.dft .node)).kids⟩:Eng.Node))).bind fun r28 =>
      bif (!r28) then (
       some (.inr (.inl false)))
      else (
       gd (qAe (at_+(1:Int))) <|
       some (.inl (at_+(1:Int))))))
    else (
     gd (0≤at_∧at_≤o25_1∧o25_1≤v.length) <|
     gd ((Int.toNat at_)+((Int.toNat o25_1) - (Int.toNat at_))≤v.length) <|
     gd (((v.drop (Int.toNat at_)).take ((Int.toNat o25_1) - (Int.toNat at_))).length≤9223372036854775807∧((v.drop (Int.toNat at_)).take ((Int.toNat o25_1) - (Int.toNat at_))).length*64≤140737488355328) <|
     gd (0≤(0:Int)∧(0:Int)<((v.drop (Int.toNat at_)).take ((Int.toNat o25_1) - (Int.toNat at_))).length) <|
     gd ((Int.toNat (0:Int))<((v.drop (Int.toNat at_)).take ((Int.toNat o25_1) - (Int.toNat at_))).length) <|
     gd ((Int.toNat (0:Int))<((v.drop (Int.toNat at_)).take ((Int.toNat o25_1) - (Int.toNat at_))).length) <|
     (zam_s (((v.drop (Int.toNat at_)).take ((Int.toNat o25_1) - (Int.toNat at_))).set (Int.toNat (0:Int)) (⟨(((v.drop (Int.toNat at_)).take ((Int.toNat o25_1) - (Int.toNat at_))).getD (Int.toNat (0:Int)) (ET.dft .node)).kind,(⟨#[]⟩:BA),(((v.drop (Int.toNat at_)).take ((Int.toNat o25_1) - (Int.toNat at_))).getD (Int.toNat (0:Int)) (ET.dft .node)).text,(((v.drop (Int.toNat at_)).take ((Int.toNat o25_1) - (Int.toNat at_))).getD (Int.toNat (0:Int)) (ET.dft .node)).whole,(((v.drop (Int.toNat at_)).take ((Int.toNat o25_1) - (Int.toNat at_))).getD (Int.toNat (0:Int)) (ET.dft .node)).int,(((v.drop (Int.toNat at_)).take ((Int.toNat o25_1) - (Int.toNat at_))).getD (Int.toNat (0:Int)) (ET.dft .node)).kids⟩:Eng.Node))).bind fun r29 =>
     bif (!r29) then (
      some (.inr (.inl false)))
     else (
      gd (qAe (at_+(1:Int))) <|
      some (.inl (at_+(1:Int)))))))) o25)
 else (
  some (.inr (.inr ())))
def zbl_p0 (at_:Int) (v:List Eng.Node):Option (Bool ⊕ Unit) :=
 qBf (fun x:Int=>qEq x v) at_
def zbl_s (text:BA):Option Bool :=
 (zbm_s).bind fun r20 =>
 bif (!r20) then (
  some false)
 else (
  (zak_s text).bind fun r21 =>
  bif (!decide (r21.2.1=(0:Int))) then (
   some true)
  else (
   (zbl_p0 (0:Int) r21.1).bind fun o30=>(Sum.elim (fun (o30_0:Bool) =>
    some o30_0) (fun (o30_1:Unit) =>
    (zah_s r21.1 (0:Int)).bind fun r31 =>
    bif decide (r31=(r21.1.length:Int)) then (
     (zah_s r21.1 (-1:Int)).bind fun r32 =>
     bif decide (r32=(-1:Int)) then (
      (zah_s r21.1 (r21.1.length:Int)).bind fun r33 =>
      bif decide (r33=(-1:Int)) then (
       (zai_s r21.1 (r21.1.length:Int)).bind fun r34 =>
       bif decide ((r34.length:Int)=(0:Int)) then (
        (zaj_s r21.1 (-1:Int) (⟨#[97]⟩:BA)).bind fun r35 =>
        some (decide (r35=(-1:Int))))
       else (
        some false))
      else (
       some false))
     else (
      some false))
    else (
     some false))) o30))
def zbl_G:Nat→Option CQ:=tblQ [(45,zbm_w),(42,zak_w),(25,zai_w),(26,zah_w),(24,zaj_w),(39,zam_w)]
theorem zbl_Gok:∀f C,zbl_G f=some C→qAg Tryd.prog f C:=qAj ⟨zbm_ok,zak_ok,zai_ok,zah_ok,zaj_ok,zam_ok,tV⟩
def zbl_d1:=(dQS (qAa (dSO 3 (dO 0)) (qAa (dSO 6 dZ) (qAa (dSO 7 (dO 1)) (qAa (dSO 8 dZ) (qAa (dSO 9 dZ) dNil))))) (qAa (dRow .node 36) (qAa (dRow .i64 3) dNil)))
def zbl_l1:SubQ:=mkL zbl_d1 (fun x=>zbl_p1 x.1.2.1 x.1.2.2.2.1 x.1.2.2.2.2.1 x.2.1 x.2.2.1) fun x r R kn kx kr=>(Sum.elim (fun (r_0:Bool)=>kr ⟨[sL 2 (.vB r_0)],[],[]⟩) (fun (r_1:Int)=>kx 2 ⟨[sL 3 (.own 0),sL 6 (.vI x.1.2.1),sL 7 (.own 1),sL 8 (.vI r_1)],[],[.row .node 36 x.2.1,.row .i64 3 x.2.2.1]⟩)) r
def zbl_d0:=(dQS (qAa (dSO 3 (dO 0)) (qAa (dSO 6 dZ) dNil)) (qAa (dRow .node 36) dNil))
def zbl_l0:SubQ:=mkL zbl_d0 (fun x=>zbl_p0 x.1.2.1 x.2.1) fun x r R kn kx kr=>(Sum.elim (fun (r_0:Bool)=>kr ⟨[sL 2 (.vB r_0)],[],[]⟩) (fun (r_1:Unit)=>kx 0 ⟨[sL 3 (.own 0)],[],[.row .node 36 x.2.1]⟩)) r
def zbl_L:Nat→SubQ:=tblL [(1,zbl_l1),(0,zbl_l0)]
theorem zbl_sub1:qCf zbl_L zbl_G 0 11 149 1 zbl_b1:=qA0 (show zbl_L 1=zbl_l1 from by kernel_rfl) fun x R kn kx kr=>qAx (step:=fun y=>qFu x.1.2.1 y.1 y.2 x.2.1 x.2.2.1) (enc:=fun (y:Int × Int)=>zbl_d1.e ((x.1.1,x.1.2.1,x.1.2.2.1,y.1,y.2,x.1.2.2.2.2.2),x.2)) (fun y=>by kernel_rfl) (fun y ki=>by simp only [qFu,-eq_self,qAd,qAh,obA,obS,slL,slR,qAc]; kernel_rfl) (x.1.2.2.2.1,x.1.2.2.2.2.1)
theorem zbl_sub0:qCf zbl_L zbl_G 0 11 149 0 zbl_b0:=qA0 (show zbl_L 0=zbl_l0 from by kernel_rfl) fun x R kn kx kr=>qAx (step:=fun y=>qEq y x.2.1) (enc:=fun (y:Int)=>zbl_d0.e ((x.1.1,y,x.1.2.2),x.2)) (fun y=>by kernel_rfl) (fun y ki=>by simp only [qEq,-eq_self,qAd,qAh,obA,obS,slL,slR,qAc]; kernel_rfl) x.1.2.1
theorem zbl_subs:qAp zbl_L zbl_G 0 11 149 zbl_q:=qAl (show qAq zbl_L zbl_G 0 11 149 [(0,zbl_b0),(1,zbl_b1)] from ⟨zbl_sub0,zbl_sub1,tV⟩)
def zbl_da:=(qAa (dVC (dCO dS)) dNil)
def zbl_db:=(dNil:Dec Unit (List SB))
def zbl_c:CS:=mkC zbl_da zbl_db (fun x y=>zbl_s x.1) (fun x y r=>.c (.o (.vB r))) fun x y r=>[]
theorem zbl_val:qAm Tryd.prog 12 zbl_c:=qAo zbl_chk 11 zbl_Gok 0 (fun x=>Nat.le_of_ble_eq_true rfl) (fun y=>rfl) zbl_subs fun x y=>by
 simp only [zbl_s,-eq_self,qAd,qAh,obA,obS,slL,slR,qAc]
 kernel_rfl
end
def Uniq (l:List Eng.Node):List Nat→Prop
 | []=>True
 | p::r=>(∀q∈r,qC6 l q≠qC6 l p)∧Uniq l r
theorem kidsS_uniq {v:List Eng.Node} {d:Nat}:∀(k a:Nat) (names:List ByteArray) (e:Nat) (L:List Nat),qDa v (oneS v d true) true k a names=some e→qEp v k a L e→(∀a b,oneS v d true a=some b→Tree v a b)→(∀p∈L,¬qC6 v p∈names)∧Uniq v L
 | 0,a,names,e,L,h,hL,ht=>by
  obtain ⟨rfl,_⟩:=hL
  exact ⟨fun p hp=>(by cases hp),tV⟩
 | k+1,a,names,e,L,h,hL,ht=>by
  obtain ⟨b,r,rfl,g1,g2⟩:=hL
  unfold qDa at h
  cases ho:oneS v d true a with
  | none=>rw [ho] at h; cases h
  | some b' =>
   rw [ho] at h
   dsimp only at h
   have:=Trees.det (ht _ _ ho) g1
   subst this
   split at h
   ·cases h
   ·rename_i hn
    have hn:¬qC6 v a∈names:=fun hm=>hn ⟨rfl,hm⟩
    obtain ⟨i1,i2⟩:=kidsS_uniq k b' (names++[qC6 v a]) e r h g2 ht
    refine ⟨fun p hp=>?_,fun q hq he=>?_,i2⟩
    ·rcases List.mem_cons.1 hp with rfl | hp
     ·exact hn
     ·exact fun hm=>i1 p hp (List.mem_append_left _ hm)
    ·exact i1 q hq (by rw [he]; exact List.mem_append_right _ List.mem_cons_self)
theorem findK_app {l:List Eng.Node} (key:ByteArray):∀(L M:List Nat),qG1 l key (L++M)=match qG1 l key L with | some p=>some p | none=>qG1 l key M
 | [],M=>rfl
 | p::r,M=>by
  show (if (l.getD p (ET.dft .node)).key=key then some p else qG1 l key (r++M))=match (if (l.getD p (ET.dft .node)).key=key then some p else qG1 l key r) with | some p=>some p | none=>qG1 l key M
  by_cases h:(l.getD p (ET.dft .node)).key=key
  ·rw [if_pos h,if_pos h]
  ·rw [if_neg h,if_neg h,findK_app key r M]
theorem findK_none {l:List Eng.Node} {key:ByteArray}:∀ {L:List Nat},(∀q∈L,qC6 l q≠key)→qG1 l key L=none
 | [],h=>rfl
 | q::r,h=>by
  unfold qG1
  rw [if_neg (show ¬(l.getD q (ET.dft .node)).key=key from h q List.mem_cons_self)]
  exact findK_none fun p hp=>h p (List.mem_cons_of_mem _ hp)
theorem Uniq.before {l:List Eng.Node}:∀ {L:List Nat} {p:Nat} {M:List Nat},Uniq l (L++p::M)→∀q∈L,qC6 l q≠qC6 l p
 | [],p,M,h,q,hq=>by cases hq
 | x::L,p,M,h,q,hq=>by
  rcases List.mem_cons.1 hq with rfl | hq
  ·exact fun he=>h.1 p (List.mem_append_right _ List.mem_cons_self) he.symm
  ·exact Uniq.before h.2 q hq
theorem Uniq.find {l:List Eng.Node} {L M:List Nat} {p:Nat} (h:Uniq l (L++p::M)):qG1 l (qC6 l p) (L++p::M)=some p:=by
 rw [findK_app,findK_none h.before]
 show (if qC6 l p=qC6 l p then some p else _)=_
 rw [if_pos rfl]
theorem kidsS_mono {v:List Eng.Node} {one one':Nat→Option Nat} {obj:Bool} (h:∀a e,one a=some e→one' a=some e):∀(k a:Nat) (names:List ByteArray) (e:Nat),qDa v one obj k a names=some e→qDa v one' obj k a names=some e
 | 0,a,names,e,hk=>hk
 | k+1,a,names,e,hk=>by
  unfold qDa at hk ⊢
  cases ho:one a with
  | none=>rw [ho] at hk; cases hk
  | some b =>
   rw [ho] at hk
   rw [h _ _ ho]
   dsimp only at hk ⊢
   split at hk
   ·cases hk
   ·rename_i hn
    rw [if_neg hn]
    exact kidsS_mono h k b _ e hk
theorem oneS_mono {v:List Eng.Node} (hv:OkL v):∀(d:Nat) (obj:Bool) (a e:Nat),oneS v d obj a=some e→oneS v (d+1) obj a=some e
 | 0,obj,a,e,h=>by
  obtain ⟨n,h1,h2,h3,h4,h5,h6,h7,h8,h9,h10⟩:=qEg hv h
  rcases h10 with ⟨_,h11,rfl⟩ | ⟨d',h,_⟩
  ·unfold oneS
   rw [h1]
   dsimp only
   rw [if_pos h5,show n.kids.toNat=0 by omega]
   rfl
  ·cases h
 | d+1,obj,a,e,h=>by
  obtain ⟨n,h1,h2,h3,h4,h5,h6,h7,h8,h9,h10⟩:=qEg hv h
  rcases h10 with ⟨h,_⟩ | ⟨d',hd,h11⟩
  ·cases h
  ·obtain rfl:d'=d:=by omega
   unfold oneS
   rw [h1]
   dsimp only
   rw [if_pos h5]
   exact kidsS_mono (fun a e=>oneS_mono hv d' _ a e) _ _ _ _ h11
theorem oneS_up {v:List Eng.Node} (hv:OkL v) {d:Nat} {obj:Bool} {a e:Nat} (h:oneS v d obj a=some e):∀m:Nat,oneS v (d+m) obj a=some e
 | 0=>h
 | m+1=>oneS_mono hv _ _ _ _ (oneS_up hv h m)
theorem kids_sub {v:List Eng.Node} {one:Nat→Option Nat} {obj:Bool} (h:∀a e,one a=some e→a<e∧e≤v.length) {p:Nat}:∀(k a:Nat) (names:List ByteArray) (e:Nat),a≤v.length→qDa v one obj k a names=some e→a≤p→p<e→∃b c,one b=some c∧b≤p∧p<c∧c≤e
 | 0,a,names,e,ha,hk,h1,h2=>by cases hk; omega
 | k+1,a,names,e,ha,hk,h1,h2=>by
  unfold qDa at hk
  cases ho:one a with
  | none=>rw [ho] at hk; cases hk
  | some b =>
   rw [ho] at hk
   dsimp only at hk
   split at hk
   ·cases hk
   ·have hb:=h a b ho
    have hle:=qGa h k b _ e hb.2 hk
    by_cases hp:p<b
    ·exact ⟨a,b,ho,h1,hp,by omega⟩
    ·exact kids_sub h k b _ e hb.2 hk (by omega) h2
theorem oneS_sub {v:List Eng.Node} (hv:OkL v) {p:Nat}:∀(d:Nat) (obj:Bool) (a e:Nat),oneS v d obj a=some e→a≤p→p<e→∃d' obj' e',d'≤d∧oneS v d' obj' p=some e':=by
 intro d
 induction d with
 | zero =>
  intro obj a e h h1 h2
  obtain ⟨n,g1,g2,g3,g4,g5,g6,g7,g8,g9,g10⟩:=qEg hv h
  rcases g10 with ⟨_,h11,rfl⟩ | ⟨d',h,_⟩
  ·obtain rfl:p=a:=by omega
   exact ⟨0,obj,_,Nat.le_refl _,h⟩
  ·cases h
 | succ d ih =>
  intro obj a e h h1 h2
  obtain ⟨n,g1,g2,g3,g4,g5,g6,g7,g8,g9,g10⟩:=qEg hv h
  rcases Nat.eq_or_lt_of_le h1 with rfl | hlt
  ·exact ⟨d+1,obj,e,Nat.le_refl _,h⟩
  ·rcases g10 with ⟨h,_⟩ | ⟨d',hd,h11⟩
   ·cases h
   ·obtain rfl:d'=d:=by omega
    obtain ⟨b,c,k1,k2,k3,k4⟩:=kids_sub (fun a e=>qCi v d' _ a e) _ _ _ _ (by omega) h11 (by omega) h2
    obtain ⟨d2,o2,e2,m1,m2⟩:=ih _ _ _ k1 k2 k3
    exact ⟨d2,o2,e2,by omega,m2⟩
section
variable {v w:List Eng.Node} {a0 m:Nat} (hag:∀i,0<i→i<m→w[i]?=v[a0+i]?) (ham:a0+m≤v.length)
include hag ham
theorem kids_shift {one one':Nat→Option Nat} {obj:Bool} (hle:∀a e,one a=some e→a<e∧e≤v.length) (h:∀i j,0<i→j≤m→one (a0+i)=some (a0+j)→one' i=some j) :
  ∀(k i j:Nat) (names:List ByteArray),0<i→i≤m→j≤m→qDa v one obj k (a0+i) names=some (a0+j)→qDa w one' obj k i names=some j
 | 0,i,j,names,h0,hi,hj,hk=>by
  have _:=ham
  unfold qDa at hk ⊢
  have:=Option.some.inj hk
  congr 1
  omega
 | k+1,i,j,names,h0,hi,hj,hk=>by
  unfold qDa at hk ⊢
  cases ho:one (a0+i) with
  | none=>rw [ho] at hk; cases hk
  | some b =>
   have hb:=hle _ _ ho
   obtain ⟨b',rfl⟩:∃b',b=a0+b':=⟨b - a0,by omega⟩
   rw [ho] at hk
   dsimp only at hk
   split at hk
   ·cases hk
   ·rename_i hn
    have hkl:=qGa hle k _ _ _ hb.2 hk
    rw [h i b' h0 (by omega) ho]
    dsimp only
    have hkey:qC6 w i=qC6 v (a0+i):=by
     unfold qC6
     rw [List.getD_eq_getElem?_getD,List.getD_eq_getElem?_getD,hag i h0 (by omega)]
    rw [hkey,if_neg hn]
    exact kids_shift hle h k b' j _ (by omega) (by omega) hj hk
theorem oneS_shift:∀(d:Nat) (obj:Bool) (i j:Nat),0<i→j≤m→oneS v d obj (a0+i)=some (a0+j)→oneS w d obj i=some j:=by
 intro d
 induction d with
 | zero =>
  intro obj i j h0 hj h
  have hle:=qCi v 0 obj _ _ h
  unfold oneS at h ⊢
  rw [hag i h0 (by omega)]
  cases hn:v[a0+i]? with
  | none=>rw [hn] at h; cases h
  | some n =>
   rw [hn] at h
   dsimp only at h ⊢
   split at h
   ·rename_i hc
    rw [if_pos hc]
    have:=Option.some.inj h
    congr 1
    omega
   ·cases h
 | succ d ih =>
  intro obj i j h0 hj h
  have hle:=qCi v (d+1) obj _ _ h
  unfold oneS at h ⊢
  rw [hag i h0 (by omega)]
  cases hn:v[a0+i]? with
  | none=>rw [hn] at h; cases h
  | some n =>
   rw [hn] at h
   dsimp only at h ⊢
   split at h
   ·rename_i hc
    rw [if_pos hc]
    exact kids_shift hag ham (fun a e=>qCi v d _ a e) (fun i j=>ih _ i j) _ (i+1) j [] (by omega) (by omega) hj h
   ·cases h
theorem part_shape {d:Nat} {obj:Bool} (hv:OkL v) {n:Eng.Node} (hn:v[a0]?=some n) (hw:w[0]?=some ⟨n.kind,⟨#[]⟩,n.text,n.whole,n.int,n.kids⟩) (h:oneS v d obj a0=some (a0+m)):oneS w d false 0=some m:=by
 have hpb:pB ⟨n.kind,⟨#[]⟩,n.text,n.whole,n.int,n.kids⟩=pB n:=rfl
 have hok:okB obj n=true→okB false ⟨n.kind,⟨#[]⟩,n.text,n.whole,n.int,n.kids⟩=true:=fun h=>by
  unfold okB at h ⊢
  rw [hpb]
  simp only [Bool.and_eq_true] at h
  rw [h.1.1]
  rfl
 have hle:=qCi v d obj _ _ h
 cases d with
 | zero =>
  unfold oneS at h ⊢
  rw [hn] at h
  rw [hw]
  dsimp only at h ⊢
  split at h
  ·rename_i hc
   rw [if_pos ⟨hok hc.1,hc.2⟩]
   have:=Option.some.inj h
   congr 1
   omega
  ·cases h
 | succ d =>
  unfold oneS at h ⊢
  rw [hn] at h
  rw [hw]
  dsimp only at h ⊢
  split at h
  ·rename_i hc
   rw [if_pos (hok hc)]
   exact kids_shift hag ham (fun a e=>qCi v d _ a e) (fun i j=>oneS_shift hag ham d _ i j) _ 1 m [] (by omega) (by omega) (Nat.le_refl _) h
  ·cases h
end
theorem part_is {v:List Eng.Node} (hv:OkL v) {d:Nat} (hd:d≤32) {obj:Bool} {a e:Nat} (h:oneS v d obj a=some e):zam_s (((v.drop a).take (e - a)).set 0 ⟨(((v.drop a).take (e - a)).getD 0 (ET.dft .node)).kind,⟨#[]⟩,(((v.drop a).take (e - a)).getD 0 (ET.dft .node)).text,(((v.drop a).take (e - a)).getD 0 (ET.dft .node)).whole,(((v.drop a).take (e - a)).getD 0 (ET.dft .node)).int,(((v.drop a).take (e - a)).getD 0 (ET.dft .node)).kids⟩)=some true:=by
 obtain ⟨hlt,hle⟩:=qCi v d obj _ _ h
 obtain ⟨n,h1,h2,h3,h4,h5,h6,h7,h8,h9,h10⟩:=qEg hv h
 have hget:((v.drop a).take (e - a)).getD 0 (ET.dft .node)=n:=by
  rw [List.getD_eq_getElem?_getD,List.getElem?_take,if_pos (by omega),List.getElem?_drop,Nat.add_zero,h1]
  rfl
 rw [hget]
 generalize hn':(⟨n.kind,⟨#[]⟩,n.text,n.whole,n.int,n.kids⟩:Eng.Node)=n'
 have hlen:((v.drop a).take (e - a)).length=e - a:=by rw [List.length_take,List.length_drop]; omega
 generalize hp:(v.drop a).take (e - a)=part at *
 have hpm:∀x∈part,x∈v:=fun x hx=>by rw [←hp] at hx; exact List.mem_of_mem_drop (List.mem_of_mem_take hx)
 have hwl:(part.set 0 n').length=e - a:=by rw [List.length_set,hlen]
 have hok:OkL (part.set 0 n'):=by
  refine ⟨by rw [hwl]; have:=hv.1; omega,fun x hx=>?_⟩
  rcases List.mem_or_eq_of_mem_set hx with hx | rfl
  ·exact hv.2 x (hpm x hx)
  ·have:=hv.2 n h2
   rw [←hn']
   exact ⟨Nat.zero_le _,this.text,this.kids⟩
 have hag:∀i,0<i→i<e - a→(part.set 0 n')[i]?=v[a+i]?:=fun i h0 hi=>by
  rw [List.getElem?_set_ne (by omega),←hp,List.getElem?_take,if_pos hi,List.getElem?_drop]
 have hw0:(part.set 0 n')[0]?=some n':=by
  rw [List.getElem?_set_self (by omega)]
 have hs:=part_shape hag (show a+(e - a)≤v.length by omega) hv h1 (by rw [hn']; exact hw0) (d:=d) (obj:=obj) (by rw [show a+(e - a)=e by omega]; exact h)
 have hs':=oneS_up hok hs (32 - d)
 rw [show d+(32 - d)=32 by omega] at hs'
 rw [prog_Shaped hok,hs',hwl,deT rfl]
theorem upN_at (pre post:List Nat) (p:Nat):(upN (pre++p::post)).getD pre.length (ET.dft .i64)=(p:Int):=by
 unfold upN
 rw [List.getD_eq_getElem?_getD,List.getElem?_map,List.getElem?_append_right (Nat.le_refl _),Nat.sub_self]
 rfl
theorem parts_loop {v:List Eng.Node} (hv:OkL v) {a:Nat} (ha:a<v.length) {L:List Nat} (hL:L.length≤2000000) {e:Nat}
  (hmem:∀key,zaj_s v (a:Int) key=some (if (v.getD a (ET.dft .node)).kind=7 then memI (qG1 v key L) else -1)) (hu:(v.getD a (ET.dft .node)).kind=7→Uniq v L) :
  ∀(post pre:List Nat) (nxt:Nat),L=pre++post→qEp v post.length nxt post e→zbl_p1 (a:Int) (nxt:Int) (pre.length:Int) v (upN L)=some (.inr (e:Int))
 | [],pre,nxt,h,hp=>by
  obtain ⟨_,rfl⟩:=hp
  unfold zbl_p1
  refine qAk ?_
  unfold qFu
  dsimp only
  rw [upN_len,deF (by rw [h,List.append_nil]; omega),cnF]
 | p::post,pre,nxt,h,hp=>by
  obtain ⟨b,r,hr,g1,g2⟩:=hp
  obtain ⟨rfl,rfl⟩:=List.cons.inj hr
  have hlen:L.length=pre.length+(post.length+1):=by rw [h,List.length_append,List.length_cons]
  have hpl:=Trees.le g1
  have hat:(upN L).getD pre.length (ET.dft .i64)=(p:Int):=by rw [h]; exact upN_at pre post p
  have ih:=parts_loop hv ha hL hmem hu post (pre++[p]) b (by rw [h]; simp) g2
  rw [←ih]
  unfold zbl_p1
  rw [qAs (y:=((b:Int),(((pre++[p]).length:Nat):Int))) ?_]
  unfold qFu
  dsimp only
  have hc:((decide ((v.getD a (ET.dft .node)).kind=7)) && (!decide ((if (v.getD a (ET.dft .node)).kind=7 then memI (qG1 v (v.getD p (ET.dft .node)).key L) else -1)=(p:Int))))=false:=by
   by_cases h7:(v.getD a (ET.dft .node)).kind=7
   ·have hu7:=hu h7
    rw [h] at hu7
    have hf:qG1 v (v.getD p (ET.dft .node)).key L=some p:=by rw [h]; exact hu7.find
    rw [if_pos h7,hf,deT (show memI (some p)=(p:Int) from rfl),Bool.not_true,Bool.and_false]
   ·rw [deF h7,Bool.false_and]
  rw [upN_len,deT (by omega),cnT,qAb (by omega),Int.toNat_natCast,qAb (by omega),hat,deT rfl,Bool.not_true,cnF,qAb (by omega),qAb (by omega),qE8 hv.1 g1,obS,qAb (by omega),Int.toNat_natCast,qAb (by omega),qAb (by omega),qAb (fun _=>by omega),qAb (fun _=>by omega),qAb (fun _=>by omega),Int.toNat_natCast,qAb (fun _=>by omega),qAb (fun _=>by omega),qAb (fun _=>by omega),qAb (fun _=>by omega),hmem,obS,hc,cnF]
  refine (qAb (by unfold qAe; omega) _).trans ?_
  rw [List.length_append]
  rfl
theorem parts_step {v:List Eng.Node} (hv:OkL v) (hsh:oneS v 32 false 0=some v.length) {a:Nat} (ha:a<v.length) (h200:a<200):qEq (a:Int) v=some (.inl ((a+1:Nat):Int)):=by
 obtain ⟨d,obj,e,hd,h⟩:=oneS_sub hv 32 false 0 v.length hsh (Nat.zero_le a) ha
 obtain ⟨hlt,hle⟩:=qCi v d obj _ _ h
 obtain ⟨n,h1,h2,h3,h4,h5,h6,h7,h8,h9,h10⟩:=qEg hv h
 have hT:=oneS_tree hv d obj a e h
 obtain ⟨nd,i1,i2,i3⟩:=hT.node
 obtain rfl:n=nd:=Option.some.inj (h1.symm.trans i1)
 obtain ⟨L,hL⟩:=i3.places
 have hlen:=hL.len
 have i3l:=i3.le
 have hv1:=hv.1
 have hmem:=fun key=>(member_find hv.1 i1 i2 i3 hL key).1
 have hu:n.kind=7→Uniq v L:=fun h7=>by
  rcases h10 with ⟨_,h11,_⟩ | ⟨d',_,h11⟩
  ·omega
  ·rw [deT h7] at h11
   exact (kidsS_uniq _ _ _ _ _ h11 hL fun a b h=>oneS_tree hv _ _ _ _ h).2
 have hlp:=parts_loop hv ha (L:=L) (by omega) (e:=e) (fun key=>by rw [h4]; exact hmem key) (fun h=>hu (by rw [←h4]; exact h)) L [] (a+1) rfl (by rw [hlen]; exact hL)
 rw [show (([]:List Nat).length:Int)=0 from rfl,show ((a+1:Nat):Int)=(a:Int)+1 by omega] at hlp
 have c1:(!decide ((e:Int)=(e:Int)))=false:=by rw [deT rfl]; rfl
 have c2:(!decide (((upN L).length:Int)=n.kids))=false:=by rw [upN_len,hlen,deT (by omega)]; rfl
 have hpl:((v.drop a).take (e - a)).length=e - a:=by rw [List.length_take,List.length_drop]; omega
 have hps:=part_is hv hd h
 unfold qEq
 rw [deT (show (a:Int)<v.length by omega),deT (show (a:Int)<200 by omega),Bool.and_self,cnT,j_kids hv.1 i1 i2 i3 hL,obS,qAb (by unfold qAe; omega),hlp,obS,Sum.elim_inr,qE8 hv.1 hT,obS]
 simp only [-eq_self,Int.toNat_natCast,h4]
 rw [c1,c2,qAb (fun _=>by omega),qAb (fun _=>by omega),qAb (fun _=>by omega),qAb (fun _=>by omega),qAb (fun _=>by omega),qAb (fun _=>by omega),Bool.or_self,cnF]
 have tail:∀k:Bool→Option (Int ⊕ (Bool ⊕ Unit)),k true=some (.inl ((a+1:Nat):Int)) →
   (gd (0≤(a:Int)∧(a:Int)≤(e:Int)∧(e:Int)≤v.length) <|
   gd (a+(e - a)≤v.length) <|
   gd (((v.drop a).take (e - a)).length≤9223372036854775807∧((v.drop a).take (e - a)).length*64≤140737488355328) <|
   gd (0≤(0:Int)∧(0:Int)<((v.drop a).take (e - a)).length) <|
   gd ((Int.toNat (0:Int))<((v.drop a).take (e - a)).length) <|
   gd ((Int.toNat (0:Int))<((v.drop a).take (e - a)).length) <|
   (zam_s (((v.drop a).take (e - a)).set 0 ⟨(((v.drop a).take (e - a)).getD 0 (ET.dft .node)).kind,⟨#[]⟩,(((v.drop a).take (e - a)).getD 0 (ET.dft .node)).text,(((v.drop a).take (e - a)).getD 0 (ET.dft .node)).whole,(((v.drop a).take (e - a)).getD 0 (ET.dft .node)).int,(((v.drop a).take (e - a)).getD 0 (ET.dft .node)).kids⟩)).bind k)=some (.inl ((a+1:Nat):Int)):=fun k hk=>by
  rw [qAb (by omega),qAb (by omega),qAb (by rw [hpl]; omega),qAb (by rw [hpl]; omega),qAb (by rw [hpl,show Int.toNat 0=0 from rfl]; omega),qAb (by rw [hpl,show Int.toNat 0=0 from rfl]; omega),hps,obS]
  exact hk
 have hk:(gd (qAe ((a:Int)+1)) <| some (.inl ((a:Int)+1)):Option (Int ⊕ (Bool ⊕ Unit)))=some (.inl ((a+1:Nat):Int)):=by
  rw [qAb (by unfold qAe; omega),show ((a+1:Nat):Int)=(a:Int)+1 by omega]
 by_cases h7:n.kind=7
 ·rw [deT h7,Bool.not_true,cnF]
  exact tail _ hk
 ·rw [deF h7,Bool.not_false,cnT,hmem,if_neg h7,obS,deT rfl,Bool.not_true,cnF]
  exact tail _ hk
theorem parts_all {v:List Eng.Node} (hv:OkL v) (hsh:oneS v 32 false 0=some v.length):∀(j a:Nat),v.length≤a+j→zbl_p0 (a:Int) v=some (.inr ())
 | j,a,h=>by
  by_cases hc:a<v.length∧a<200
  ·cases j with
   | zero=>omega
   | succ j =>
    have ih:=parts_all hv hsh j (a+1) (by omega)
    unfold zbl_p0 at ih ⊢
    rw [qAs (parts_step hv hsh hc.1 hc.2)]
    exact ih
  ·unfold zbl_p0
   refine qAk ?_
   unfold qEq
   have:(decide ((a:Int)<(v.length:Int)) && decide ((a:Int)<200))=false:=by
    rw [Bool.eq_false_iff]
    intro hh
    rw [Bool.and_eq_true,decide_eq_true_eq,decide_eq_true_eq] at hh
    omega
   rw [this,cnF]
theorem jsonParts_plain (t:ByteArray):zbl_s t=some true:=by
 unfold zbl_s
 rw [alive_is,obS,Bool.not_true,cnF,p_Parse,obS]
 rcases parseR_cases t with ⟨l,h1,h2,h3,h4,h5,h6,h7⟩ | ⟨c,b,h1,h2⟩
 ·rw [h1]
  dsimp only
  have hok:OkL l:=⟨by omega,fun n hn=>(h7 n hn).okN (by decide)⟩
  have hsh:=readR_shape h2 h3
  have hall:=parts_all hok hsh l.length 0 (by omega)
  have hb:=qE8 hok.1 h6
  rw [show ((0:Nat):Int)=0 from rfl] at hall hb
  rw [deT rfl,Bool.not_true,cnF,hall,obS,Sum.elim_inr,hb,obS,deT rfl,cnT,p_jBehind_out l (.inl (by decide)),obS,deT rfl,cnT,p_jBehind_out l (.inr (by omega)),obS,deT rfl,cnT,j_kids_out l (.inr (by omega)),obS]
  rw [show (([]:List Int).length:Int)=0 from rfl,deT rfl,cnT,(member_out (v:=l) (.inl (by decide)) _).1,obS,deT rfl]
 ·rw [h1]
  dsimp only
  rw [deF h2,Bool.not_false,cnT]
end Go.Proofs.YtdcoiccdbgcpaaaDoor
namespace Go.Eng
open Go.RowKit
set_option linter.unusedVariables false
theorem reach_of {x:Nat} (h:decide (x≤reachBytes)=true):x≤140737488351232:=by
 have h2:=of_decide_eq_true h
 exact h2
theorem size_of_weights {H:Type} {P:Program} {T:TypeId} {s:ByteArray} (h:∀x∈(DataW.lit (.string s.data.toList):DataW H).weights P T,x≤140737488351232):s.size≤140737488351232:=by
 have h2:=h s.data.toList.length (by simp only [DataW.weights]; exact List.mem_singleton.2 rfl)
 rw [Array.length_toList] at h2
 exact h2
structure LowB (w w':World):Prop where
 os:w'.os=w.os
 output:w'.output=w.output
 size:w.heap.size≤w'.heap.size
 block:∀k,k<w.heap.size→w'.heap[k]?=w.heap[k]?
theorem lowB_of_stays {w w':World} (h:Stays (fun _=>False) w w'):LowB w w':=⟨h.os,h.output,h.size,fun k hk=>h.block k hk id⟩
theorem LowB.frame {W w':World} (h:LowB W w') (may:MemPlace→Prop):W.keptBut w' may:=by
 refine ⟨h.os,h.output,fun i hi=>?_⟩
 rw [h.block i hi]
 split <;> simp_all
theorem LowB.same {W w':World} (h:LowB W w') {p:MemPlace} (hp:p.block<W.heap.size):W.sameAt w' p:=by
 cases p with
 | cell b o=>exact World.cell?_of_block (w:=W) (h.block b hp)
 | map b=>exact h.block b hp
theorem LowB.trod {H:Type} {enc:TypeId × Value→H} {P:Program} {t:TypeId} (hl:laidOutB P=true) (hr:P.readableRec t=true) (hrow:t<P.types.size) {W W':World} {v:Value} {d:DataW H} {ps:List MemPlace}
  (h:DataW.Trod enc P W 0 (fun _=>true) true t v d ps) (hb:LowB W W') (hlt:∀x∈ps,x.block<W.heap.size) :
  DataW.Trod enc P W' 0 (fun b=>decide (b<W.heap.size)) true t v d ps :=
 WideElems.Trod_stays hl hr hrow h (fun x hx=>hb.same (hlt x hx)) (fun x hx=>by simpa using hlt x hx)
theorem callS {P:Program} {f:Nat} {C:CS} (h:qAm P f C) {args:List SV} {v:SV} (hc:C args [] (SV × List SB) (fun v hp'=>some (v,hp'))=some (v,[])) (hs:args.all SV.shut=true) (hv:v.shut=true) (w:World) (ht:tabOK noX w) (vs:List Value) (hvs:args.map (SV.den fun _=>undef)=vs) :
  Calls P f vs.toArray w fun e w'=>e=.returned (v.den fun _=>undef)∧LowB w w':=by
 have:=h.2 args [] v [] hc (fun v hv=>SV.shut_lt (List.all_eq_true.1 hs v hv) _) noX w (fun _=>undef) (HpSat.nil _ _ ht _)
 rw [hvs] at this
 exact this.mono fun e w' ⟨ρ',_,_,a,_,_,b⟩=>⟨by rw [a,SV.shut_den hv ρ' fun _=>undef],lowB_of_stays b⟩
end Go.Eng
namespace Go.Proofs
open Go.Shelf
shelf_lay Lays.n260 Nm 260 at Tryd as Tryd.laysSlow
end Go.Proofs
namespace Go.Proofs.YtdcoiccdbgcpaaaDoor
open Go.Eng Go.Shelf
set_option linter.unusedVariables false
theorem first_data:(Rows.laid_unicode_utf8_first:DataW Unit)=Lib.firstData:=by kernel_rfl
theorem accept_data:(Rows.laid_unicode_utf8_acceptRanges:DataW Unit)=Lib.acceptData:=by kernel_rfl
theorem utf8_tabs {W:World} (h3:Lib.VarReads Tryd.prog W "unicode/utf8.first" Rows.laid_unicode_utf8_first) (h4:Lib.VarReads Tryd.prog W "unicode/utf8.acceptRanges" Rows.laid_unicode_utf8_acceptRanges):tabOK noX W:=by
 rw [first_data] at h3
 rw [accept_data] at h4
 exact ⟨utf8Tabs_of_reads Tryd.laysSlow ⟨by kernel_rfl,by kernel_rfl,by kernel_rfl,by kernel_rfl,by kernel_rfl,by kernel_rfl,by kernel_rfl⟩ h3 h4,fun h=>h,fun h=>h⟩
end Go.Proofs.YtdcoiccdbgcpaaaDoor
namespace Go.Proofs.YtdcoiccdbgcpaaaDoor
open Go.Eng
set_option linter.unusedVariables false
set_option linter.unusedSimpArgs false
theorem jsonParts_tabs {W:World} (h:laidMetH Tryd.prog Rows.jsonPartsRow.laid W):tabOK noX W:=by
 have h':laidMet Tryd.prog Rows.jsonPartsRow.laid W:=h
 exact utf8_tabs (Lib.laidMet.reads h' (List.mem_cons_of_mem _ List.mem_cons_self)) (Lib.laidMet.reads h' List.mem_cons_self)
theorem jsonParts_walk (s0:ByteArray) (W:World) (h0:s0.size≤140737488351232) (hT:tabOK noX W):Calls Tryd.prog 12 #[.string s0] W fun e w'=>e=.returned (.bool true)∧LowB W w':=by
 refine callS zbl_val (args:=[.c (.o (.val (.string s0)))]) (v:=.c (.o (.val (.bool true)))) ?_ rfl rfl W hT [.string s0] rfl
 show ((zbl_s s0).bind fun r=>some ((.c (.o (.val (.bool r))),[]):SV × List SB))=_
 rw [jsonParts_plain s0]
 rfl
end Go.Proofs.YtdcoiccdbgcpaaaDoor
