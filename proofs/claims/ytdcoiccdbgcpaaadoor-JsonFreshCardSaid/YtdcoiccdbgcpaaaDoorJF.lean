/-
  Functions as the engine reads them (printed by gen.py).
-/
import Derived.Test.YtdcoiccdbgcpaaaDoorEngO
import Derived.Test.YtdcoiccdbgcpaaaDoorProg
import Derived.Test.YtdcoiccdbgcpaaaDoorJS
import Derived.Test.YtdcoiccdbgcpaaaDoorGC
import Derived.Test.YtdcoiccdbgcpaaaDoorPShaped
import Derived.Test.YtdcoiccdbgcpaaaDoorJP
import Derived.Test.YtdcoiccdbgcpaaaDoorPLexQ
import Derived.Test.YtdcoiccdbgcpaaaDoorJW
namespace Go.Proofs.YtdcoiccdbgcpaaaDoor
open Go.Eng
set_option linter.unusedVariables false
set_option linter.unusedSimpArgs false
set_option maxRecDepth 100000
noncomputable section
def zbp_b0:IQ:=(.loop [0,1,5] (.seq (.seq (rg 14 [oM 11 t5,oM 12 t0,oP 13 (.len t12),oP 14 (.bi .lss t11 t13)]) (.cond t14 .skip (.cn [] (.exit 0)))) (.seq (.block 1 (.seq (.reg 25 (some [0,1,2,3,4,5,6,7,8]) [oM 17 t0,oM 18 t5,oP 19 (.iaddr 1 t17 t18),oP 20 (.load none t19),oM 21 t1,oM 22 t5,oP 23 (.iaddr 1 t21 t22),oP 24 (.load none t23),oP 25 (.bi .neq t20 t24)]) (.cond t25 (.seq (rg 4 [oP 4 (.mv vF)]) (.cn [4] .ret)) .skip))) (rg 5 [oM 15 t5,oP 16 (.bi .add t15 (vI 1)),oM 5 t16]))))
def zbp_q:IQ:=(.seq (rg 4 [oP 4 (.mv vF)]) (.seq (.seq (rg 10 [oM 6 t0,oP 7 (.len t6),oM 8 t1,oP 9 (.len t8),oP 10 (.bi .neq t7 t9)]) (.cond t10 (.seq (rg 4 [oP 4 (.mv vF)]) (.cn [4] .ret)) .skip)) (.seq (.seq (rg 5 [oP 5 (.mv (vI 0))]) (.block 0 (.cn [0,1,5] (.sub 0 zbp_b0)))) (.seq (rg 4 [oP 4 (.mv vT)]) (.cn [4] .ret)))))
theorem zbp_chk:chk Tryd.prog 30 []=some (zbp_q.erase,[.tmp 4],26):=by kernel_rfl
def qFp (i:Int) (a b:List Int):Option (Int ⊕ (Bool ⊕ Unit)) :=
 bif decide (i<(a.length:Int)) then (
  gd (0≤i∧i<a.length) <|
  gd ((Int.toNat i)<a.length) <|
  gd (0≤i∧i<b.length) <|
  gd ((Int.toNat i)<b.length) <|
  bif (!decide ((a.getD (Int.toNat i) (ET.dft .i64))=(b.getD (Int.toNat i) (ET.dft .i64)))) then (
   some (.inr (.inl false)))
  else (
   gd (qAe (i+(1:Int))) <|
   some (.inl (i+(1:Int)))))
 else (
  some (.inr (.inr ())))
def zbp_p0 (i:Int) (a b:List Int):Option (Bool ⊕ Unit) :=
 qA2 (fun x:Int=>qFp x a b) i
def zbp_s (a b:(List Int)):Option Bool :=
 bif (!decide ((a.length:Int)=(b.length:Int))) then (
  some false)
 else (
  (zbp_p0 (0:Int) a b).bind fun o1=>(Sum.elim (fun (o1_0:Bool) =>
   some o1_0) (fun (o1_1:Unit) =>
   some true)) o1)
def zbp_G:Nat→Option CQ:=tblQ []
theorem zbp_Gok:∀f C,zbp_G f=some C→qAf Tryd.prog f C:=fun f C h=>by cases h
def zbp_d0:=(dQS (qAb (dSO 0 (dO 0)) (qAb (dSO 1 (dO 1)) (qAb (dSO 5 dZ) dNil))) (qAb (qBs .i64) (qAb (qBs .i64) dNil)))
def zbp_l0:SubQ:=mkL zbp_d0 (fun x=>zbp_p0 x.1.2.2.1 x.2.1 x.2.2.1) fun x r R kn kx kr=>(Sum.elim (fun (r_0:Bool)=>kr ⟨[sL 4 (.vB r_0)],[],[.view .i64 x.2.1,.view .i64 x.2.2.1]⟩) (fun (r_1:Unit)=>kx 0 ⟨[],[],[.view .i64 x.2.1,.view .i64 x.2.2.1]⟩)) r
def zbp_L:Nat→SubQ:=tblL [(0,zbp_l0)]
theorem zbp_sub0:qBz zbp_L zbp_G 2 6 26 0 zbp_b0:=qAu (show zbp_L 0=zbp_l0 from by kernel_rfl) fun x R kn kx kr=>qAs (step:=fun y=>qFp y x.2.1 x.2.2.1) (enc:=fun (y:Int)=>zbp_d0.e ((x.1.1,x.1.2.1,y,x.1.2.2.2),x.2)) (fun y=>by kernel_rfl) (fun y ki=>by simp only [qFp,-eq_self,qAd,qAg,obA,obS,slL,slR,qAc]; kernel_rfl) x.1.2.2.1
theorem zbp_subs:qAp zbp_L zbp_G 2 6 26 zbp_q:=qAk (show qAr zbp_L zbp_G 2 6 26 [(0,zbp_b0)] from ⟨zbp_sub0,tV⟩)
def zbp_da:=(qAb (dVC (dCO (dO 0))) (qAb (dVC (dCO (dO 1))) dNil))
def zbp_db:=(qAb (qBs .i64) (qAb (qBs .i64) dNil))
def zbp_c:CS:=mkC zbp_da zbp_db (fun x y=>zbp_s y.1 y.2.1) (fun x y r=>.c (.o (.vB r))) fun x y r=>[.view .i64 y.1,.view .i64 y.2.1]
theorem zbp_val:qAm Tryd.prog 30 zbp_c:=qAo zbp_chk 6 zbp_Gok 2 (fun x=>Nat.le_of_ble_eq_true rfl) (fun y=>rfl) zbp_subs fun x y=>by
 simp only [zbp_s,-eq_self,qAd,qAg,obA,obS,slL,slR,qAc];kernel_rfl
def zbp_w:CQ:=qB8 [(0,none,some (.i64,3)),(1,none,some (.i64,3))] (qD4 [false,false] zbp_c)
theorem zbp_ok:qAf Tryd.prog 30 zbp_w:=qEh zbp_val
def zbn_b0:IQ:=(.loop [0,1,2,3,9] (.seq (.seq (rg 14 [oM 11 t9,oM 12 t0,oP 13 (.len t12),oP 14 (.bi .lss t11 t13)]) (.cond t14 .skip (.cn [2,3] (.exit 0)))) (.seq (.block 1 (.seq (rg 40 [oM 17 t9,oM 18 t1,oP 19 (.bi .lss t17 t18),oM 20 t19,oF 21 (.mv t0) 20,oF 22 (.mv t9) 20,oF 23 (.iaddr 6 t21 t22) 20,oF 24 (.faddr 0 t23) 20,oF 25 (.load none t24) 20,oF 26 (.bi .neq t25 (vI 99)) 20,oP 27 (.pick t20 t26 vF),oM 28 t27,oE 29 (.mv t9) 28,oE 30 (.mv t1) 28,oE 31 (.bi .geq t29 t30) 28,oE 32 (.mv t31) 28,oF 33 (.mv t0) 32,oF 34 (.mv t9) 32,oF 35 (.iaddr 6 t33 t34) 32,oF 36 (.faddr 0 t35) 32,oF 37 (.load none t36) 32,oF 38 (.bi .neq t37 (vI 98)) 32,oE 39 (.pick t32 t38 vF) 28,oP 40 (.pick t28 vT t39)]) (.cond t40 (.seq (rg 8 [oP 8 (.mv vF)]) (.cn [8] .ret)) .skip))) (rg 9 [oM 15 t9,oP 16 (.bi .add t15 (vI 1)),oM 9 t16]))))
def zbn_b1:IQ:=(.loop [2,3,10] (.seq (.seq (rg 44 [oM 41 t10,oM 42 t2,oP 43 (.len t42),oP 44 (.bi .lss t41 t43)]) (.cond t44 .skip (.cn [] (.exit 2)))) (.seq (.block 3 (.seq (rg 68 [oM 47 t10,oM 48 t3,oP 49 (.bi .lss t47 t48),oM 50 t49,oF 51 (.mv t2) 50,oF 52 (.mv t10) 50,oF 53 (.iaddr 1 t51 t52) 50,oF 54 (.load none t53) 50,oF 55 (.bi .neq t54 (.v (.int .i64 (-7)))) 50,oP 56 (.pick t50 t55 vF),oM 57 t56,oE 58 (.mv t10) 57,oE 59 (.mv t3) 57,oE 60 (.bi .geq t58 t59) 57,oE 61 (.mv t60) 57,oF 62 (.mv t2) 61,oF 63 (.mv t10) 61,oF 64 (.iaddr 1 t62 t63) 61,oF 65 (.load none t64) 61,oF 66 (.bi .neq t65 (.v (.int .i64 (-8)))) 61,oE 67 (.pick t61 t66 vF) 57,oP 68 (.pick t57 vT t67)]) (.cond t68 (.seq (rg 8 [oP 8 (.mv vF)]) (.cn [8] .ret)) .skip))) (rg 10 [oM 45 t10,oP 46 (.bi .add t45 (vI 1)),oM 10 t46]))))
def zbn_q:IQ:=(.seq (rg 8 [oP 8 (.mv vF)]) (.seq (.seq (rg 9 [oP 9 (.mv (vI 0))]) (.block 0 (.cn [0,1,2,3,9] (.sub 0 zbn_b0)))) (.seq (.seq (rg 10 [oP 10 (.mv (vI 0))]) (.block 2 (.cn [2,3,10] (.sub 1 zbn_b1)))) (.seq (rg 8 [oP 8 (.mv vT)]) (.cn [8] .ret)))))
theorem zbn_chk:chk Tryd.prog 49 []=some (zbn_q.erase,[.tmp 8],69):=by kernel_rfl
def qFv (n i:Int) (more:List Eng.Node):Option (Int ⊕ (Bool ⊕ Unit)) :=
 bif decide (i<(more.length:Int)) then (
  gd ((decide (i<n))=true→0≤i∧i<more.length) <|
  gd ((decide (i<n))=true→(Int.toNat i)<more.length) <|
  gd ((decide (i<n))=true→(Int.toNat i)<more.length) <|
  gd ((decide (n≤i))=true→((decide (i<n)) && (!decide (((more.getD (Int.toNat i) (ET.dft .node)).kind)=(99:Int))))=false→0≤i∧i<more.length) <|
  gd ((decide (n≤i))=true→((decide (i<n)) && (!decide (((more.getD (Int.toNat i) (ET.dft .node)).kind)=(99:Int))))=false→(Int.toNat i)<more.length) <|
  gd ((decide (n≤i))=true→((decide (i<n)) && (!decide (((more.getD (Int.toNat i) (ET.dft .node)).kind)=(99:Int))))=false→(Int.toNat i)<more.length) <|
  bif (((decide (i<n)) && (!decide (((more.getD (Int.toNat i) (ET.dft .node)).kind)=(99:Int)))) || ((decide (n≤i)) && (!decide (((more.getD (Int.toNat i) (ET.dft .node)).kind)=(98:Int))))) then (
   some (.inr (.inl false)))
  else (
   gd (qAe (i+(1:Int))) <|
   some (.inl (i+(1:Int)))))
 else (
  some (.inr (.inr ())))
def zbn_p0 (n i:Int) (more:List Eng.Node):Option (Bool ⊕ Unit) :=
 qA2 (fun x:Int=>qFv n x more) i
def qFi (m i:Int) (others:List Int):Option (Int ⊕ (Bool ⊕ Unit)) :=
 bif decide (i<(others.length:Int)) then (
  gd ((decide (i<m))=true→0≤i∧i<others.length) <|
  gd ((decide (i<m))=true→(Int.toNat i)<others.length) <|
  gd ((decide (m≤i))=true→((decide (i<m)) && (!decide ((others.getD (Int.toNat i) (ET.dft .i64))=(-7:Int))))=false→0≤i∧i<others.length) <|
  gd ((decide (m≤i))=true→((decide (i<m)) && (!decide ((others.getD (Int.toNat i) (ET.dft .i64))=(-7:Int))))=false→(Int.toNat i)<others.length) <|
  bif (((decide (i<m)) && (!decide ((others.getD (Int.toNat i) (ET.dft .i64))=(-7:Int)))) || ((decide (m≤i)) && (!decide ((others.getD (Int.toNat i) (ET.dft .i64))=(-8:Int))))) then (
   some (.inr (.inl false)))
  else (
   gd (qAe (i+(1:Int))) <|
   some (.inl (i+(1:Int)))))
 else (
  some (.inr (.inr ())))
def zbn_p1 (m i:Int) (others:List Int):Option (Bool ⊕ Unit) :=
 qA2 (fun x:Int=>qFi m x others) i
def zbn_s (more:(List Eng.Node)) (n:Int) (others:(List Int)) (m:Int):Option Bool :=
 (zbn_p0 n (0:Int) more).bind fun o2=>(Sum.elim (fun (o2_0:Bool) =>
  some o2_0) (fun (o2_1:Unit) =>
  (zbn_p1 m (0:Int) others).bind fun o3=>(Sum.elim (fun (o3_0:Bool) =>
   some o3_0) (fun (o3_1:Unit) =>
   some true)) o3)) o2
def zbn_G:Nat→Option CQ:=tblQ []
theorem zbn_Gok:∀f C,zbn_G f=some C→qAf Tryd.prog f C:=fun f C h=>by cases h
def zbn_d0:=(dQS (qAb (dSO 0 (dO 0)) (qAb (dSO 1 dZ) (qAb (dSO 2 (dO 1)) (qAb (dSO 3 dZ) (qAb (dSO 9 dZ) dNil))))) (qAb (qBs .node) (qAb (qBs .i64) dNil)))
def zbn_l0:SubQ:=mkL zbn_d0 (fun x=>zbn_p0 x.1.2.1 x.1.2.2.2.2.1 x.2.1) fun x r R kn kx kr=>(Sum.elim (fun (r_0:Bool)=>kr ⟨[sL 8 (.vB r_0)],[],[.view .node x.2.1,.view .i64 x.2.2.1]⟩) (fun (r_1:Unit)=>kx 0 ⟨[sL 2 (.own 1),sL 3 (.vI x.1.2.2.2.1)],[],[.view .node x.2.1,.view .i64 x.2.2.1]⟩)) r
def zbn_d1:=(dQS (qAb (dSO 2 (dO 1)) (qAb (dSO 3 dZ) (qAb (dSO 10 dZ) dNil))) (qAb (qBs .node) (qAb (qBs .i64) dNil)))
def zbn_l1:SubQ:=mkL zbn_d1 (fun x=>zbn_p1 x.1.2.1 x.1.2.2.1 x.2.2.1) fun x r R kn kx kr=>(Sum.elim (fun (r_0:Bool)=>kr ⟨[sL 8 (.vB r_0)],[],[.view .node x.2.1,.view .i64 x.2.2.1]⟩) (fun (r_1:Unit)=>kx 2 ⟨[],[],[.view .node x.2.1,.view .i64 x.2.2.1]⟩)) r
def zbn_L:Nat→SubQ:=tblL [(0,zbn_l0),(1,zbn_l1)]
theorem zbn_sub0:qBz zbn_L zbn_G 2 11 69 0 zbn_b0:=qAu (show zbn_L 0=zbn_l0 from by kernel_rfl) fun x R kn kx kr=>qAs (step:=fun y=>qFv x.1.2.1 y x.2.1) (enc:=fun (y:Int)=>zbn_d0.e ((x.1.1,x.1.2.1,x.1.2.2.1,x.1.2.2.2.1,y,x.1.2.2.2.2.2),x.2)) (fun y=>by kernel_rfl) (fun y ki=>by simp only [qFv,-eq_self,qAd,qAg,obA,obS,slL,slR,qAc]; kernel_rfl) x.1.2.2.2.2.1
theorem zbn_sub1:qBz zbn_L zbn_G 2 11 69 1 zbn_b1:=qAu (show zbn_L 1=zbn_l1 from by kernel_rfl) fun x R kn kx kr=>qAs (step:=fun y=>qFi x.1.2.1 y x.2.2.1) (enc:=fun (y:Int)=>zbn_d1.e ((x.1.1,x.1.2.1,y,x.1.2.2.2),x.2)) (fun y=>by kernel_rfl) (fun y ki=>by simp only [qFi,-eq_self,qAd,qAg,obA,obS,slL,slR,qAc]; kernel_rfl) x.1.2.2.1
theorem zbn_subs:qAp zbn_L zbn_G 2 11 69 zbn_q:=qAk (show qAr zbn_L zbn_G 2 11 69 [(0,zbn_b0),(1,zbn_b1)] from ⟨zbn_sub0,zbn_sub1,tV⟩)
def zbn_da:=(qAb (dVC (dCO (dO 0))) (qAb (dVC (dCO dZ)) (qAb (dVC (dCO (dO 1))) (qAb (dVC (dCO dZ)) dNil))))
def zbn_db:=(qAb (qBs .node) (qAb (qBs .i64) dNil))
def zbn_c:CS:=mkC zbn_da zbn_db (fun x y=>zbn_s y.1 x.2.1 y.2.1 x.2.2.2.1) (fun x y r=>.c (.o (.vB r))) fun x y r=>[.view .node y.1,.view .i64 y.2.1]
theorem zbn_val:qAm Tryd.prog 49 zbn_c:=qAo zbn_chk 11 zbn_Gok 2 (fun x=>Nat.le_of_ble_eq_true rfl) (fun y=>rfl) zbn_subs fun x y=>by
 simp only [zbn_s,-eq_self,qAd,qAg,obA,obS,slL,slR,qAc];kernel_rfl
def zbn_w:CQ:=qB8 [(0,none,some (.node,36)),(2,none,some (.i64,3))] (qD4 [false,false] zbn_c)
theorem zbn_ok:qAf Tryd.prog 49 zbn_w:=qEh zbn_val
def zbl_b0:IQ:=(.loop [0,1,5,6,8,11,12,13,14,15] (.seq (.seq (rg 68 [oM 65 t15,oM 66 t5,oP 67 (.len t66),oP 68 (.bi .lss t65 t67)]) (.cond t68 .skip (.cn [0,1,5,6,8,11,12,13,14] (.exit 0)))) (.seq (.block 1 (rg 0 [oM 71 t5,oM 72 t15,oP 73 (.build [.int .i64 0,.string ⟨#[]⟩,.string ⟨#[]⟩,.bool false,.int .i64 0,.int .i64 0] [(0,1,(vI 99))]),oP 74 (.iaddr 6 t71 t72),oN (.store 6 t74 t73)])) (rg 15 [oM 69 t15,oP 70 (.bi .add t69 (vI 1)),oM 15 t70]))))
def zbl_b1:IQ:=(.loop [0,1,5,6,8,11,12,13,14,16,17] (.seq (.seq (rg 81 [oM 80 t17,oP 81 (.bi .lss t80 (vI 70))]) (.cond t81 .skip (.cn [0,1,5,6,8,11,12,13,14,16] (.exit 2)))) (.seq (.block 3 (rg 16 [oM 84 t16,oP 85 (.build [.int .i64 0,.string ⟨#[]⟩,.string ⟨#[]⟩,.bool false,.int .i64 0,.int .i64 0] [(0,1,(vI 98))]),oP 86 (.bslice 36 6 1 [.int .i64 0,.string ⟨#[]⟩,.string ⟨#[]⟩,.bool false,.int .i64 0,.int .i64 0] [(0,t85)]),oP 87 (.append 36 6 64 [.int .i64 0,.string ⟨#[]⟩,.string ⟨#[]⟩,.bool false,.int .i64 0,.int .i64 0] t84 t86),oM 16 t87])) (rg 17 [oM 82 t17,oP 83 (.bi .add t82 (vI 1)),oM 17 t83]))))
def zbl_b2:IQ:=(.loop [0,1,5,6,8,11,12,13,14,16,18] (.seq (.seq (rg 91 [oM 88 t18,oM 89 t12,oP 90 (.len t89),oP 91 (.bi .lss t88 t90)]) (.cond t91 .skip (.cn [0,1,5,6,8,11,12,13,14,16] (.exit 4)))) (.seq (.block 5 (rg 0 [oM 94 t12,oM 95 t18,oP 96 (.iaddr 1 t94 t95),oN (.store 1 t96 (.v (.int .i64 (-7))))])) (rg 18 [oM 92 t18,oP 93 (.bi .add t92 (vI 1)),oM 18 t93]))))
def zbl_b3:IQ:=(.loop [0,1,5,6,8,11,12,13,14,16,19,20] (.seq (.seq (rg 109 [oM 108 t20,oP 109 (.bi .lss t108 (vI 70))]) (.cond t109 .skip (.cn [0,1,5,6,8,11,12,13,14,16,19] (.exit 6)))) (.seq (.block 7 (rg 19 [oM 112 t19,oP 113 (.bslice 3 1 1 [.int .i64 0] [(0,(.v (.int .i64 (-8))))]),oP 114 (.append 3 1 8 [.int .i64 0] t112 t113),oM 19 t114])) (rg 20 [oM 110 t20,oP 111 (.bi .add t110 (vI 1)),oM 20 t111]))))
def zbl_b4:IQ:=(.loop [1,8,14,25] (.seq (.seq (rg 166 [oM 163 t25,oM 164 t8,oP 165 (.len t164),oP 166 (.bi .lss t163 t165)]) (.cond t166 .skip (.cn [1,8,14] (.exit 8)))) (.seq (.block 9 (.seq (.seq (rg 174 [oM 169 t8,oM 170 t25,oP 171 (.iaddr 6 t169 t170),oP 172 (.faddr 0 t171),oP 173 (.load none t172),oP 174 (.bi .eql t173 (vI 5))]) (.cond t174 (rg 0 [oM 175 t8,oM 176 t25,oP 177 (.iaddr 6 t175 t176),oP 178 (.faddr 2 t177),oN (.store 1 t178 (.v (.string ⟨#[]⟩)))]) .skip)) (rg 0 [oM 179 t8,oM 180 t25,oP 181 (.iaddr 6 t179 t180),oP 182 (.faddr 1 t181),oN (.store 1 t182 (.v (.string ⟨#[]⟩)))]))) (rg 25 [oM 167 t25,oP 168 (.bi .add t167 (vI 1)),oM 25 t168]))))
def zbl_q:IQ:=(.seq (rg 4 [oP 4 (.mv vF)]) (.seq (.seq (rg 28 [oP 27 (.call 45 []),oP 28 (.un .not t27)]) (.cond t28 (.seq (rg 4 [oP 4 (.mv vF)]) (.cn [4] .ret)) .skip)) (.seq (rg 7 [oM 30 t0,oP 31 (.call 42 [t30]),oM 29 t31,oP 32 (.extract t29 0),oP 33 (.extract t29 1),oP 34 (.extract t29 2),oM 5 t32,oM 6 t33,oM 7 t34]) (.seq (rg 10 [oM 36 t0,oP 37 (.call 42 [t36]),oM 35 t37,oP 38 (.extract t35 0),oP 39 (.extract t35 1),oP 40 (.extract t35 2),oM 8 t38,oM 9 t39,oM 10 t40]) (.seq (.seq (rg 49 [oM 41 t6,oM 42 t9,oP 43 (.bi .neq t41 t42),oM 44 t43,oE 45 (.mv t5) 44,oE 46 (.mv t8) 44,oE 47 (.call 46 [t45,t46]) 44,oE 48 (.un .not t47) 44,oP 49 (.pick t44 vT t48)]) (.cond t49 (.seq (rg 4 [oP 4 (.mv vF)]) (.cn [4] .ret)) .skip)) (.seq (rg 11 [oM 50 t8,oP 51 (.call 32 [t50]),oM 11 t51]) (.seq (rg 12 [oM 52 t8,oM 53 t1,oP 54 (.call 25 [t52,t53]),oM 12 t54]) (.seq (rg 13 [oM 55 t8,oM 56 t1,oP 57 (.call 25 [t55,t56]),oM 13 t57]) (.seq (rg 14 [oP 14 (.mv (.v (.slice none 0 0)))]) (.seq (rg 14 [oM 58 t14,oM 59 t12,oP 60 (.append 3 1 8 [.int .i64 0] t58 t59),oM 14 t60]) (.seq (.seq (rg 64 [oM 61 t13,oM 62 t14,oP 63 (.call 30 [t61,t62]),oP 64 (.un .not t63)]) (.cond t64 (.seq (rg 4 [oP 4 (.mv vF)]) (.cn [4] .ret)) .skip)) (.seq (.seq (rg 15 [oP 15 (.mv (vI 0))]) (.block 0 (.cn [0,1,5,6,8,11,12,13,14,15] (.sub 0 zbl_b0)))) (.seq (.seq (rg 78 [oM 75 t8,oM 76 t11,oP 77 (.call 46 [t75,t76]),oP 78 (.un .not t77)]) (.cond t78 (.seq (rg 4 [oP 4 (.mv vF)]) (.cn [4] .ret)) .skip)) (.seq (rg 16 [oM 79 t5,oM 16 t79]) (.seq (.seq (rg 17 [oP 17 (.mv (vI 0))]) (.block 2 (.canon [(4000005,none,.u8,0)] [0,1,5,6,8,11,12,13,14,16,17] (.sub 1 zbl_b1)))) (.seq (.seq (rg 18 [oP 18 (.mv (vI 0))]) (.block 4 (.cn [0,1,5,6,8,11,12,13,14,16,18] (.sub 2 zbl_b2)))) (.seq (.seq (rg 106 [oM 97 t13,oM 98 t14,oP 99 (.call 30 [t97,t98]),oP 100 (.un .not t99),oM 101 t100,oE 102 (.mv t8) 101,oE 103 (.mv t11) 101,oE 104 (.call 46 [t102,t103]) 101,oE 105 (.un .not t104) 101,oP 106 (.pick t101 vT t105)]) (.cond t106 (.seq (rg 4 [oP 4 (.mv vF)]) (.cn [4] .ret)) .skip)) (.seq (rg 19 [oM 107 t12,oM 19 t107]) (.seq (.seq (rg 20 [oP 20 (.mv (vI 0))]) (.block 6 (.canon [(4000012,none,.u8,0)] [0,1,5,6,8,11,12,13,14,16,19,20] (.sub 3 zbl_b3)))) (.seq (.seq (rg 124 [oM 115 t13,oM 116 t14,oP 117 (.call 30 [t115,t116]),oP 118 (.un .not t117),oM 119 t118,oE 120 (.mv t8) 119,oE 121 (.mv t11) 119,oE 122 (.call 46 [t120,t121]) 119,oE 123 (.un .not t122) 119,oP 124 (.pick t119 vT t123)]) (.cond t124 (.seq (rg 4 [oP 4 (.mv vF)]) (.cn [4] .ret)) .skip)) (.seq (.seq (rg 132 [oM 125 t16,oM 126 t5,oP 127 (.len t126),oM 128 t19,oM 129 t12,oP 130 (.len t129),oP 131 (.call 49 [t125,t127,t128,t130]),oP 132 (.un .not t131)]) (.cond t132 (.seq (rg 4 [oP 4 (.mv vF)]) (.cn [4] .ret)) .skip)) (.seq (rg 23 [oM 134 t0,oP 135 (.call 42 [t134]),oM 133 t135,oP 136 (.extract t133 0),oP 137 (.extract t133 1),oP 138 (.extract t133 2),oM 21 t136,oM 22 t137,oM 23 t138]) (.seq (rg 24 [oM 139 t8,oM 140 t1,oP 141 (.call 25 [t139,t140]),oM 24 t141]) (.seq (.seq (rg 162 [oM 142 t22,oM 143 t6,oP 144 (.bi .neq t142 t143),oM 145 t144,oE 146 (.mv t21) 145,oE 147 (.mv t11) 145,oE 148 (.call 46 [t146,t147]) 145,oE 149 (.un .not t148) 145,oP 150 (.pick t145 vT t149),oM 151 t150,oE 152 (.mv t24) 151,oE 153 (.mv t14) 151,oE 154 (.call 30 [t152,t153]) 151,oE 155 (.un .not t154) 151,oP 156 (.pick t151 vT t155),oM 157 t156,oE 158 (.mv t13) 157,oE 159 (.mv t14) 157,oE 160 (.call 30 [t158,t159]) 157,oE 161 (.un .not t160) 157,oP 162 (.pick t157 vT t161)]) (.cond t162 (.seq (rg 4 [oP 4 (.mv vF)]) (.cn [4] .ret)) .skip)) (.seq (.seq (rg 25 [oP 25 (.mv (vI 0))]) (.block 8 (.cn [1,8,14,25] (.sub 4 zbl_b4)))) (.seq (rg 26 [oM 183 t8,oM 184 t1,oP 185 (.call 25 [t183,t184]),oM 26 t185]) (.seq (rg 4 [oM 186 t26,oP 187 (.len t186),oM 188 t14,oP 189 (.len t188),oP 190 (.bi .eql t187 t189),oM 191 t190,oE 192 (.mv t8) 191,oE 193 (.call 39 [t192]) 191,oE 194 (.un .not t193) 191,oP 195 (.pick t191 vT t194),oM 4 t195]) (.cn [4] .ret))))))))))))))))))))))))))))
theorem zbl_chk:chk Tryd.prog 13 []=some (zbl_q.erase,[.tmp 4],196):=by kernel_rfl
def qFf (i:Int) (v:List Eng.Node):Option ((Int × (List Eng.Node)) ⊕ ((List Eng.Node))) :=
 bif decide (i<(v.length:Int)) then (
  gd (0≤i∧i<v.length) <|
  gd ((Int.toNat i)<v.length) <|
  gd (qAe (i+(1:Int))) <|
  some (.inl ((i+(1:Int)),(v.set (Int.toNat i) (⟨(99:Int),(⟨#[]⟩:BA),(⟨#[]⟩:BA),false,(0:Int),(0:Int)⟩:Eng.Node)))))
 else (
  some (.inr v))
def zbl_p0 (i:Int) (v:List Eng.Node):Option ((List Eng.Node)) :=
 qA2 (fun x:(Int × (List Eng.Node))=>qFf x.1 x.2) (i,v)
def qFj (i:Int) (more:List Eng.Node):Option ((Int × (List Eng.Node)) ⊕ ((List Eng.Node))) :=
 bif decide (i<(70:Int)) then (
  gd (more.length+([(⟨(98:Int),(⟨#[]⟩:BA),(⟨#[]⟩:BA),false,(0:Int),(0:Int)⟩:Eng.Node)]:List Eng.Node).length≤9223372036854775807∧(more.length+([(⟨(98:Int),(⟨#[]⟩:BA),(⟨#[]⟩:BA),false,(0:Int),(0:Int)⟩:Eng.Node)]:List Eng.Node).length)*64≤140737488355328) <|
  gd (qAe (i+(1:Int))) <|
  some (.inl ((i+(1:Int)),(more++[(⟨(98:Int),(⟨#[]⟩:BA),(⟨#[]⟩:BA),false,(0:Int),(0:Int)⟩:Eng.Node)]))))
 else (
  some (.inr more))
def zbl_p1 (i:Int) (more:List Eng.Node):Option ((List Eng.Node)) :=
 qA2 (fun x:(Int × (List Eng.Node))=>qFj x.1 x.2) (i,more)
def qFe (i:Int) (k_:List Int):Option ((Int × (List Int)) ⊕ ((List Int))) :=
 bif decide (i<(k_.length:Int)) then (
  gd (0≤i∧i<k_.length) <|
  gd ((Int.toNat i)<k_.length) <|
  gd (qAe (i+(1:Int))) <|
  some (.inl ((i+(1:Int)),(k_.set (Int.toNat i) (-7:Int)))))
 else (
  some (.inr k_))
def zbl_p2 (i:Int) (k_:List Int):Option ((List Int)) :=
 qA2 (fun x:(Int × (List Int))=>qFe x.1 x.2) (i,k_)
def qF0 (i:Int) (others:List Int):Option ((Int × (List Int)) ⊕ ((List Int))) :=
 bif decide (i<(70:Int)) then (
  gd (others.length+([(-8:Int)]:List Int).length≤9223372036854775807∧(others.length+([(-8:Int)]:List Int).length)*8≤140737488355328) <|
  gd (qAe (i+(1:Int))) <|
  some (.inl ((i+(1:Int)),(others++[(-8:Int)]))))
 else (
  some (.inr others))
def zbl_p3 (i:Int) (others:List Int):Option ((List Int)) :=
 qA2 (fun x:(Int × (List Int))=>qF0 x.1 x.2) (i,others)
def qEj (i:Int) (w:List Eng.Node):Option ((Int × (List Eng.Node)) ⊕ ((List Eng.Node))) :=
 bif decide (i<(w.length:Int)) then (
  gd (0≤i∧i<w.length) <|
  gd ((Int.toNat i)<w.length) <|
  gd ((Int.toNat i)<w.length) <|
  bif decide (((w.getD (Int.toNat i) (ET.dft .node)).kind)=(5:Int)) then (
   gd (0≤i∧i<w.length) <|
   gd ((Int.toNat i)<w.length) <|
   gd ((Int.toNat i)<w.length) <|
   gd (0≤i∧i<(w.set (Int.toNat i) (⟨(w.getD (Int.toNat i) (ET.dft .node)).kind,(w.getD (Int.toNat i) (ET.dft .node)).key,(⟨#[]⟩:BA),(w.getD (Int.toNat i) (ET.dft .node)).whole,(w.getD (Int.toNat i) (ET.dft .node)).int,(w.getD (Int.toNat i) (ET.dft .node)).kids⟩:Eng.Node)).length) <|
   gd ((Int.toNat i)<(w.set (Int.toNat i) (⟨(w.getD (Int.toNat i) (ET.dft .node)).kind,(w.getD (Int.toNat i) (ET.dft .node)).key,(⟨#[]⟩:BA),(w.getD (Int.toNat i) (ET.dft .node)).whole,(w.getD (Int.toNat i) (ET.dft .node)).int,(w.getD (Int.toNat i) (ET.dft .node)).kids⟩:Eng.Node)).length) <|
   gd ((Int.toNat i)<(w.set (Int.toNat i) (⟨(w.getD (Int.toNat i) (ET.dft .node)).kind,(w.getD (Int.toNat i) (ET.dft .node)).key,(⟨#[]⟩:BA),(w.getD (Int.toNat i) (ET.dft .node)).whole,(w.getD (Int.toNat i) (ET.dft .node)).int,(w.getD (Int.toNat i) (ET.dft .node)).kids⟩:Eng.Node)).length) <|
   gd (qAe (i+(1:Int))) <|
   some (.inl ((i+(1:Int)),((w.set (Int.toNat i) (⟨(w.getD (Int.toNat i) (ET.dft .node)).kind,(w.getD (Int.toNat i) (ET.dft .node)).key,(⟨#[]⟩:BA),(w.getD (Int.toNat i) (ET.dft .node)).whole,(w.getD (Int.toNat i) (ET.dft .node)).int,(w.getD (Int.toNat i) (ET.dft .node)).kids⟩:Eng.Node)).set (Int.toNat i) (⟨((w.set (Int.toNat i) (⟨(w.getD (Int.toNat i) (ET.dft .node)).kind,(w.getD (Int.toNat i) (ET.dft .node)).key,(⟨#[]⟩:BA),(w.getD (Int.toNat i) (ET.dft .node)).whole,(w.getD (Int.toNat i) (ET.dft .node)).int,(w.getD (Int.toNat i) (ET.dft .node)).kids⟩:Eng.Node)).getD (Int.toNat i) (ET.dft .node)).kind,(⟨#[]⟩:BA),((w.set (Int.toNat i) (⟨(w.getD (Int.toNat i) (ET.dft .node)).kind,(w.getD (Int.toNat i) (ET.dft .node)).key,(⟨#[]⟩:BA),(w.getD (Int.toNat i) (ET.dft .node)).whole,(w.getD (Int.toNat i) (ET.dft .node)).int,(w.getD (Int.toNat i) (ET.dft .node)).kids⟩:Eng.Node)).getD (Int.toNat i) (ET.dft .node)).text,((w.set (Int.toNat i) (⟨(w.getD (Int.toNat i) (ET.dft .node)).kind,(w.getD (Int.toNat i) (ET.dft .node)).key,(⟨#[]⟩:BA),(w.getD (Int.toNat i) (ET.dft .node)).whole,(w.getD (Int.toNat i) (ET.dft .node)).int,(w.getD (Int.toNat i) (ET.dft .node)).kids⟩:Eng.Node)).getD (Int.toNat i) (ET.dft .node)).whole,((w.set (Int.toNat i) (⟨(w.getD (Int.toNat i) (ET.dft .node)).kind,(w.getD (Int.toNat i) (ET.dft .node)).key,(⟨#[]⟩:BA),(w.getD (Int.toNat i) (ET.dft .node)).whole,(w.getD (Int.toNat i) (ET.dft .node)).int,(w.getD (Int.toNat i) (ET.dft .node)).kids⟩:Eng.Node)).getD (Int.toNat i) (ET.dft .node)).int,((w.set (Int.toNat i) (⟨(w.getD (Int.toNat i) (ET.dft .node)).kind,(w.getD (Int.toNat i) (ET.dft .node)).key,(⟨#[]⟩:BA),(w.getD (Int.toNat i) (ET.dft .node)).whole,(w.getD (Int.toNat i) (ET.dft .node)).int,(w.getD (Int.toNat i) (ET.dft .node)).kids⟩:Eng.Node)).getD (Int.toNat i) (ET.dft .node)).kids⟩:Eng.Node)))))
  else (
   gd (0≤i∧i<w.length) <|
   gd ((Int.toNat i)<w.length) <|
   gd ((Int.toNat i)<w.length) <|
   gd (qAe (i+(1:Int))) <|
   some (.inl ((i+(1:Int)),(w.set (Int.toNat i) (⟨(w.getD (Int.toNat i) (ET.dft .node)).kind,(⟨#[]⟩:BA),(w.getD (Int.toNat i) (ET.dft .node)).text,(w.getD (Int.toNat i) (ET.dft .node)).whole,(w.getD (Int.toNat i) (ET.dft .node)).int,(w.getD (Int.toNat i) (ET.dft .node)).kids⟩:Eng.Node))))))
 else (
  some (.inr w))
def zbl_p4 (i:Int) (w:List Eng.Node):Option ((List Eng.Node)) :=
 qA2 (fun x:(Int × (List Eng.Node))=>qEj x.1 x.2) (i,w)
def zbl_s (text:BA) (at_:Int):Option Bool :=
 (zbm_s).bind fun r133 =>
 bif (!r133) then (
  some false)
 else (
  (zak_s text).bind fun r134 =>
  (zak_s text).bind fun r135 =>
  bif (!decide (r134.2.1=r135.2.1)) then (
   some false)
  else (
   (zbo_s r134.1 r135.1).bind fun r136 =>
   bif (!r136) then (
    some false)
   else (
    (zbq_s r135.1).bind fun r137 =>
    (zai_s r135.1 at_).bind fun r138 =>
    (zai_s r135.1 at_).bind fun r139 =>
    gd (r138.length≤9223372036854775807∧r138.length*8≤140737488355328) <|
    (zbp_s r139 r138).bind fun r140 =>
    bif (!r140) then (
     some false)
    else (
     (zbl_p0 (0:Int) r134.1).bind fun o141 =>
     (zbo_s r135.1 r137).bind fun r142 =>
     bif (!r142) then (
      some false)
     else (
      (zbl_p1 (0:Int) o141).bind fun o143 =>
      (zbl_p2 (0:Int) r138).bind fun o144 =>
      (zbp_s r139 r138).bind fun r145 =>
      bif (!r145) then (
       some false)
      else (
       (zbo_s r135.1 r137).bind fun r146 =>
       bif (!r146) then (
        some false)
       else (
        (zbl_p3 (0:Int) o144).bind fun o147 =>
        (zbp_s r139 r138).bind fun r148 =>
        bif (!r148) then (
         some false)
        else (
         (zbo_s r135.1 r137).bind fun r149 =>
         bif (!r149) then (
          some false)
         else (
          (zbn_s o143 ((o141.length:Nat):Int) o147 ((o144.length:Nat):Int)).bind fun r150 =>
          bif (!r150) then (
           some false)
          else (
           (zak_s text).bind fun r151 =>
           (zai_s r135.1 at_).bind fun r152 =>
           bif (!decide (r151.2.1=r134.2.1)) then (
            some false)
           else (
            (zbo_s r151.1 r137).bind fun r153 =>
            bif (!r153) then (
             some false)
            else (
             (zbp_s r152 r138).bind fun r154 =>
             bif (!r154) then (
              some false)
             else (
              (zbp_s r139 r138).bind fun r155 =>
              bif (!r155) then (
               some false)
              else (
               (zbl_p4 (0:Int) r135.1).bind fun o156 =>
               (zai_s o156 at_).bind fun r157 =>
               bif decide ((r157.length:Int)=(r138.length:Int)) then (
                some true)
               else (
                (zam_s o156).bind fun r158 =>
                some (!r158))))))))))))))))
def zbl_G:Nat→Option CQ:=tblQ [(45,zbm_w),(42,zak_w),(46,zbo_w),(32,zbq_w),(25,zai_w),(30,zbp_w),(49,zbn_w),(39,zam_w)]
theorem zbl_Gok:∀f C,zbl_G f=some C→qAf Tryd.prog f C:=qAl ⟨zbm_ok,zak_ok,zbo_ok,zbq_ok,zai_ok,zbp_ok,zbn_ok,zam_ok,tV⟩
def zbl_d0:=(dQS (qAb (dSO 0 dS) (qAb (dSO 1 dZ) (qAb (dSO 5 (dO 0)) (qAb (dSO 6 dZ) (qAb (dSO 8 (dO 1)) (qAb (dSO 11 (dO 2)) (qAb (dSO 12 (dO 3)) (qAb (dSO 13 (dO 4)) (qAb (dSO 14 (dO 5)) (qAb (dSO 15 dZ) dNil)))))))))) (qAb (dRow .node 36) (qAb (dRow .node 36) (qAb (dRow .node 36) (qAb (dRow .i64 3) (qAb (dRow .i64 3) (qAb (dRow .i64 3) dNil)))))))
def zbl_l0:SubQ:=mkL zbl_d0 (fun x=>zbl_p0 x.1.2.2.2.2.2.2.2.2.2.1 x.2.1) fun x r R kn kx kr=>kx 0 ⟨[sL 0 (.vS x.1.1),sL 1 (.vI x.1.2.1),sL 5 (.own 0),sL 6 (.vI x.1.2.2.2.1),sL 8 (.own 1),sL 11 (.own 2),sL 12 (.own 3),sL 13 (.own 4),sL 14 (.own 5)],[],[.row .node 36 r,.row .node 36 x.2.2.1,.row .node 36 x.2.2.2.1,.row .i64 3 x.2.2.2.2.1,.row .i64 3 x.2.2.2.2.2.1,.row .i64 3 x.2.2.2.2.2.2.1]⟩
def zbl_d1:=(dQS (qAb (dSO 0 dS) (qAb (dSO 1 dZ) (qAb (dSO 5 (dO 0)) (qAb (dSO 6 dZ) (qAb (dSO 8 (dO 1)) (qAb (dSO 11 (dO 2)) (qAb (dSO 12 (dO 3)) (qAb (dSO 13 (dO 4)) (qAb (dSO 14 (dO 5)) (qAb (dSO 16 (dO 6)) (qAb (dSO 17 dZ) dNil))))))))))) (qAb (dPart0 7 6) (qAb (dRow .node 36) (qAb (dRow .node 36) (qAb (dRow .i64 3) (qAb (dRow .i64 3) (qAb (dRow .i64 3) (qAb (dRow .node 36) (qAb dDead dNil)))))))))
def zbl_l1:SubQ:=mkL zbl_d1 (fun x=>zbl_p1 x.1.2.2.2.2.2.2.2.2.2.2.1 x.2.2.2.2.2.2.2.1) fun x r R kn kx kr=>kx 2 ⟨[sL 0 (.vS x.1.1),sL 1 (.vI x.1.2.1),sL 5 (.own 0),sL 6 (.vI x.1.2.2.2.1),sL 8 (.own 1),sL 11 (.own 2),sL 12 (.own 3),sL 13 (.own 4),sL 14 (.own 5),sL 16 (.own 6)],[],[.part 7 (0) x.2.1 6,.row .node 36 x.2.2.1,.row .node 36 x.2.2.2.1,.row .i64 3 x.2.2.2.2.1,.row .i64 3 x.2.2.2.2.2.1,.row .i64 3 x.2.2.2.2.2.2.1,.row .node 36 r,.dead]⟩
def zbl_d2:=(dQS (qAb (dSO 0 dS) (qAb (dSO 1 dZ) (qAb (dSO 5 (dO 0)) (qAb (dSO 6 dZ) (qAb (dSO 8 (dO 1)) (qAb (dSO 11 (dO 2)) (qAb (dSO 12 (dO 3)) (qAb (dSO 13 (dO 4)) (qAb (dSO 14 (dO 5)) (qAb (dSO 16 (dO 6)) (qAb (dSO 18 dZ) dNil))))))))))) (qAb (dPart0 7 6) (qAb (dRow .node 36) (qAb (dRow .node 36) (qAb (dRow .i64 3) (qAb (dRow .i64 3) (qAb (dRow .i64 3) (qAb (dRow .node 36) (qAb dDead dNil)))))))))
def zbl_l2:SubQ:=mkL zbl_d2 (fun x=>zbl_p2 x.1.2.2.2.2.2.2.2.2.2.2.1 x.2.2.2.2.1) fun x r R kn kx kr=>kx 4 ⟨[sL 0 (.vS x.1.1),sL 1 (.vI x.1.2.1),sL 5 (.own 0),sL 6 (.vI x.1.2.2.2.1),sL 8 (.own 1),sL 11 (.own 2),sL 12 (.own 3),sL 13 (.own 4),sL 14 (.own 5),sL 16 (.own 6)],[],[.part 7 (0) x.2.1 6,.row .node 36 x.2.2.1,.row .node 36 x.2.2.2.1,.row .i64 3 r,.row .i64 3 x.2.2.2.2.2.1,.row .i64 3 x.2.2.2.2.2.2.1,.row .node 36 x.2.2.2.2.2.2.2.1,.dead]⟩
def zbl_d3:=(dQS (qAb (dSO 0 dS) (qAb (dSO 1 dZ) (qAb (dSO 5 (dO 0)) (qAb (dSO 6 dZ) (qAb (dSO 8 (dO 1)) (qAb (dSO 11 (dO 2)) (qAb (dSO 12 (dO 3)) (qAb (dSO 13 (dO 4)) (qAb (dSO 14 (dO 5)) (qAb (dSO 16 (dO 6)) (qAb (dSO 19 (dO 7)) (qAb (dSO 20 dZ) dNil)))))))))))) (qAb (dPart0 8 6) (qAb (dRow .node 36) (qAb (dRow .node 36) (qAb (dPart0 9 1) (qAb (dRow .i64 3) (qAb (dRow .i64 3) (qAb (dRow .node 36) (qAb (dRow .i64 3) (qAb dDead (qAb dDead dNil)))))))))))
def zbl_l3:SubQ:=mkL zbl_d3 (fun x=>zbl_p3 x.1.2.2.2.2.2.2.2.2.2.2.2.1 x.2.2.2.2.2.2.2.2.1) fun x r R kn kx kr=>kx 6 ⟨[sL 0 (.vS x.1.1),sL 1 (.vI x.1.2.1),sL 5 (.own 0),sL 6 (.vI x.1.2.2.2.1),sL 8 (.own 1),sL 11 (.own 2),sL 12 (.own 3),sL 13 (.own 4),sL 14 (.own 5),sL 16 (.own 6),sL 19 (.own 7)],[],[.part 8 (0) x.2.1 6,.row .node 36 x.2.2.1,.row .node 36 x.2.2.2.1,.part 9 (0) x.2.2.2.2.1 1,.row .i64 3 x.2.2.2.2.2.1,.row .i64 3 x.2.2.2.2.2.2.1,.row .node 36 x.2.2.2.2.2.2.2.1,.row .i64 3 r,.dead,.dead]⟩
def zbl_d4:=(dQS (qAb (dSO 1 dZ) (qAb (dSO 8 (dO 0)) (qAb (dSO 14 (dO 1)) (qAb (dSO 25 dZ) dNil)))) (qAb (dRow .node 36) (qAb (dRow .i64 3) dNil)))
def zbl_l4:SubQ:=mkL zbl_d4 (fun x=>zbl_p4 x.1.2.2.2.1 x.2.1) fun x r R kn kx kr=>kx 8 ⟨[sL 1 (.vI x.1.1),sL 8 (.own 0),sL 14 (.own 1)],[],[.row .node 36 r,.row .i64 3 x.2.2.1]⟩
def zbl_L:Nat→SubQ:=tblL [(0,zbl_l0),(1,zbl_l1),(2,zbl_l2),(3,zbl_l3),(4,zbl_l4)]
theorem zbl_sub0:qBz zbl_L zbl_G 0 27 196 0 zbl_b0:=qAu (show zbl_L 0=zbl_l0 from by kernel_rfl) fun x R kn kx kr=>qAs (step:=fun y=>qFf y.1 y.2) (enc:=fun (y:Int × (List Eng.Node))=>zbl_d0.e ((x.1.1,x.1.2.1,x.1.2.2.1,x.1.2.2.2.1,x.1.2.2.2.2.1,x.1.2.2.2.2.2.1,x.1.2.2.2.2.2.2.1,x.1.2.2.2.2.2.2.2.1,x.1.2.2.2.2.2.2.2.2.1,y.1,x.1.2.2.2.2.2.2.2.2.2.2),(y.2,x.2.2))) (fun y=>by kernel_rfl) (fun y ki=>by simp only [qFf,-eq_self,qAd,qAg,obA,obS,slL,slR,qAc]; kernel_rfl) (x.1.2.2.2.2.2.2.2.2.2.1,x.2.1)
theorem zbl_sub1:qBz zbl_L zbl_G 0 27 196 1 zbl_b1:=qAu (show zbl_L 1=zbl_l1 from by kernel_rfl) fun x R kn kx kr=>qAs (step:=fun y=>qFj y.1 y.2) (enc:=fun (y:Int × (List Eng.Node))=>zbl_d1.e ((x.1.1,x.1.2.1,x.1.2.2.1,x.1.2.2.2.1,x.1.2.2.2.2.1,x.1.2.2.2.2.2.1,x.1.2.2.2.2.2.2.1,x.1.2.2.2.2.2.2.2.1,x.1.2.2.2.2.2.2.2.2.1,x.1.2.2.2.2.2.2.2.2.2.1,y.1,x.1.2.2.2.2.2.2.2.2.2.2.2),(x.2.1,x.2.2.1,x.2.2.2.1,x.2.2.2.2.1,x.2.2.2.2.2.1,x.2.2.2.2.2.2.1,y.2,x.2.2.2.2.2.2.2.2))) (fun y=>by kernel_rfl) (fun y ki=>by simp only [qFj,-eq_self,qAd,qAg,obA,obS,slL,slR,qAc]; kernel_rfl) (x.1.2.2.2.2.2.2.2.2.2.2.1,x.2.2.2.2.2.2.2.1)
theorem zbl_sub2:qBz zbl_L zbl_G 0 27 196 2 zbl_b2:=qAu (show zbl_L 2=zbl_l2 from by kernel_rfl) fun x R kn kx kr=>qAs (step:=fun y=>qFe y.1 y.2) (enc:=fun (y:Int × (List Int))=>zbl_d2.e ((x.1.1,x.1.2.1,x.1.2.2.1,x.1.2.2.2.1,x.1.2.2.2.2.1,x.1.2.2.2.2.2.1,x.1.2.2.2.2.2.2.1,x.1.2.2.2.2.2.2.2.1,x.1.2.2.2.2.2.2.2.2.1,x.1.2.2.2.2.2.2.2.2.2.1,y.1,x.1.2.2.2.2.2.2.2.2.2.2.2),(x.2.1,x.2.2.1,x.2.2.2.1,y.2,x.2.2.2.2.2))) (fun y=>by kernel_rfl) (fun y ki=>by simp only [qFe,-eq_self,qAd,qAg,obA,obS,slL,slR,qAc]; kernel_rfl) (x.1.2.2.2.2.2.2.2.2.2.2.1,x.2.2.2.2.1)
theorem zbl_sub3:qBz zbl_L zbl_G 0 27 196 3 zbl_b3:=qAu (show zbl_L 3=zbl_l3 from by kernel_rfl) fun x R kn kx kr=>qAs (step:=fun y=>qF0 y.1 y.2) (enc:=fun (y:Int × (List Int))=>zbl_d3.e ((x.1.1,x.1.2.1,x.1.2.2.1,x.1.2.2.2.1,x.1.2.2.2.2.1,x.1.2.2.2.2.2.1,x.1.2.2.2.2.2.2.1,x.1.2.2.2.2.2.2.2.1,x.1.2.2.2.2.2.2.2.2.1,x.1.2.2.2.2.2.2.2.2.2.1,x.1.2.2.2.2.2.2.2.2.2.2.1,y.1,x.1.2.2.2.2.2.2.2.2.2.2.2.2),(x.2.1,x.2.2.1,x.2.2.2.1,x.2.2.2.2.1,x.2.2.2.2.2.1,x.2.2.2.2.2.2.1,x.2.2.2.2.2.2.2.1,y.2,x.2.2.2.2.2.2.2.2.2))) (fun y=>by kernel_rfl) (fun y ki=>by simp only [qF0,-eq_self,qAd,qAg,obA,obS,slL,slR,qAc]; kernel_rfl) (x.1.2.2.2.2.2.2.2.2.2.2.2.1,x.2.2.2.2.2.2.2.2.1)
theorem zbl_sub4:qBz zbl_L zbl_G 0 27 196 4 zbl_b4:=qAu (show zbl_L 4=zbl_l4 from by kernel_rfl) fun x R kn kx kr=>qAs (step:=fun y=>qEj y.1 y.2) (enc:=fun (y:Int × (List Eng.Node))=>zbl_d4.e ((x.1.1,x.1.2.1,x.1.2.2.1,y.1,x.1.2.2.2.2),(y.2,x.2.2))) (fun y=>by kernel_rfl) (fun y ki=>by simp only [qEj,-eq_self,qAd,qAg,obA,obS,slL,slR,qAc]; kernel_rfl) (x.1.2.2.2.1,x.2.1)
theorem zbl_subs:qAp zbl_L zbl_G 0 27 196 zbl_q:=qAk (show qAr zbl_L zbl_G 0 27 196 [(0,zbl_b0),(1,zbl_b1),(2,zbl_b2),(3,zbl_b3),(4,zbl_b4)] from ⟨zbl_sub0,zbl_sub1,zbl_sub2,zbl_sub3,zbl_sub4,tV⟩)
def zbl_da:=(qAb (dVC (dCO dS)) (qAb (dVC (dCO dZ)) dNil))
def zbl_db:=(dNil:Dec Unit (List SB))
def zbl_c:CS:=mkC zbl_da zbl_db (fun x y=>zbl_s x.1 x.2.1) (fun x y r=>.c (.o (.vB r))) fun x y r=>[]
theorem zbl_val:qAm Tryd.prog 13 zbl_c:=qAo zbl_chk 27 zbl_Gok 0 (fun x=>Nat.le_of_ble_eq_true rfl) (fun y=>rfl) zbl_subs fun x y=>by
 simp only [zbl_s,-eq_self,qAd,qAg,obA,obS,slL,slR,qAc];kernel_rfl
end
end Go.Proofs.YtdcoiccdbgcpaaaDoor
