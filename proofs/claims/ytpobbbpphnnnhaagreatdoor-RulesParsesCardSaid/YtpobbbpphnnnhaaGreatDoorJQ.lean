/-
  Functions as the engine reads them (printed by gen.py).
-/
import Derived.Test.YtpobbbpphnnnhaaGreatDoorEngO
import Derived.Test.YtpobbbpphnnnhaaGreatDoorProg
import Derived.Test.YtpobbbpphnnnhaaGreatDoorGC
import Derived.Test.YtpobbbpphnnnhaaGreatDoorJS
namespace Go.Proofs.YtpobbbpphnnnhaaGreatDoor
open Go.Eng
set_option linter.unusedVariables false
set_option linter.unusedSimpArgs false
set_option maxRecDepth 100000
noncomputable section
structure qHs where
 at_:Int
 l:(List Eng.Node)
 s:BA
 code:Int
 bad:Int
def zdg_b0:IQ:=(.loop [0,1] (.seq (.seq (rg 32 [oM 5 t1,oM 6 t0,oP 7 (.lenS t6),oP 8 (.bi .lss t5 t7),oM 9 t8,oF 10 (.mv t0) 9,oF 11 (.mv t1) 9,oF 12 (.index t10 t11) 9,oF 13 (.bi .eql t12 (vC 32)) 9,oF 14 (.mv t13) 9,oE 15 (.mv t0) 14,oE 16 (.mv t1) 14,oE 17 (.index t15 t16) 14,oE 18 (.bi .eql t17 (vC 9)) 14,oF 19 (.pick t14 vT t18) 9,oF 20 (.mv t19) 9,oE 21 (.mv t0) 20,oE 22 (.mv t1) 20,oE 23 (.index t21 t22) 20,oE 24 (.bi .eql t23 (vC 10)) 20,oF 25 (.pick t20 vT t24) 9,oF 26 (.mv t25) 9,oE 27 (.mv t0) 26,oE 28 (.mv t1) 26,oE 29 (.index t27 t28) 26,oE 30 (.bi .eql t29 (vC 13)) 26,oF 31 (.pick t26 vT t30) 9,oP 32 (.pick t9 t31 vF)]) (.cond t32 .skip (.cn [1] (.exit 0)))) (.block 1 (rg 1 [oM 33 t1,oP 34 (.bi .add t33 (vI 1)),oM 1 t34]))))
def zdg_q:IQ:=(.seq (rg 4 [oP 4 (.mv (vI 0))]) (.seq (.block 0 (.cn [0,1] (.sub 0 zdg_b0))) (.seq (rg 4 [oM 35 t1,oM 4 t35]) (.cn [4] .ret))))
def qGa (t:BA) (at_:Int):Option (Int ⊕ Int) :=
 gd ((decide (at_<(t.size:Int)))=true→0≤at_∧at_<t.size) <|
 gd ((decide ((bAt t at_)=(32:Int)))=false→(decide (at_<(t.size:Int)))=true→0≤at_∧at_<t.size) <|
 gd (((decide ((bAt t at_)=(32:Int))) || (decide ((bAt t at_)=(9:Int))))=false→(decide (at_<(t.size:Int)))=true→0≤at_∧at_<t.size) <|
 gd ((((decide ((bAt t at_)=(32:Int))) || (decide ((bAt t at_)=(9:Int)))) || (decide ((bAt t at_)=(10:Int))))=false→(decide (at_<(t.size:Int)))=true→0≤at_∧at_<t.size) <|
 bif ((decide (at_<(t.size:Int))) && ((((decide ((bAt t at_)=(32:Int))) || (decide ((bAt t at_)=(9:Int)))) || (decide ((bAt t at_)=(10:Int)))) || (decide ((bAt t at_)=(13:Int))))) then (
  gd (qAf (at_+(1:Int))) <|
  some (.inl (at_+(1:Int))))
 else (
  some (.inr at_))
def zdg_p0 (t:BA) (at_:Int):Option Int :=
 qAw (fun x:Int=>qGa t x) at_
def zdg_s (t:BA) (at_:Int):Option Int :=
 (zdg_p0 t at_).bind fun o1 =>
 some o1
def zdg_G:Nat→Option CQ:=tblQ []
def zdg_d0:=(dQS (qAa (dSO 0 dS) (qAa (dSO 1 dZ) dNil)) dNil)
def zdg_l0:SubQ:=mkL zdg_d0 (fun x=>zdg_p0 x.1.1 x.1.2.1) fun x r R kn kx kr=>kx 0 ⟨[sL 1 (.vI r)],[],[]⟩
def zdg_L:Nat→SubQ:=tblL [(0,zdg_l0)]
theorem zdg_sub0:qA0 zdg_L zdg_G 0 5 36 0 zdg_b0:=qAp (show zdg_L 0=zdg_l0 from by kernel_rfl) fun x R kn kx kr=>qAm (step:=fun y=>qGa x.1.1 y) (enc:=fun (y:Int)=>zdg_d0.e ((x.1.1,y,x.1.2.2),x.2)) (fun y=>by kernel_rfl) (fun y ki=>by simp only [qGa,-eq_self,qAc,qAe,obA,obS,slL,slR,qAd]; kernel_rfl) x.1.2.1
def zdg_c:CS:=mkC (qAa (dVC (dCO dS)) (qAa (dVC (dCO dZ)) dNil)) dNil (fun x y=>zdg_s x.1 x.2.1) (fun x y r=>.c (.o (.vI r))) fun x y r=>[]
theorem zdg_val:qAj Tryz.prog 84 zdg_c:=vl1 zdg_q [.tmp 4] 36 5 0 (show qAu zdg_L zdg_G 0 5 36 [(0,zdg_b0)] from ⟨zdg_sub0,tV⟩) (fun f C h=>by cases h) fun x y=>by
 simp only [zdg_s,-eq_self,qAc,qAe,obA,obS,slL,slR,qAd];kernel_rfl
def zdg_w:CQ:=qCl [] zdg_c
theorem zdg_ok:qAg Tryz.prog 84 zdg_w:=qAn zdg_val
def zcz_q:IQ:=(.seq (rg 4 [oP 4 (.mv (vI 0))]) (.seq (.seq (rg 8 [oM 5 t1,oM 6 t0,oP 7 (.lenS t6),oP 8 (.bi .geq t5 t7)]) (.cond t8 (.seq (rg 4 [oP 4 (.mv (.v (.int .i64 (-1))))]) (.cn [4] .ret)) .skip)) (.seq (rg 4 [oM 9 t0,oM 10 t1,oP 11 (.index t9 t10),oP 12 (.conv false .i64 t11),oM 4 t12]) (.cn [4] .ret))))
def zcz_s (t:BA) (at_:Int):Option Int :=
 bif decide ((t.size:Int)≤at_) then (
  some (-1:Int))
 else (
  gd (0≤at_∧at_<t.size) <|
  gd (qAf (bAt t at_)) <|
  some (bAt t at_))
def zcz_c:CS:=mkC (qAa (dVC (dCO dS)) (qAa (dVC (dCO dZ)) dNil)) dNil (fun x y=>zcz_s x.1 x.2.1) (fun x y r=>.c (.o (.vI r))) fun x y r=>[]
theorem zcz_val:qAj Tryz.prog 97 zcz_c:=vl0 zcz_q [.tmp 4] 13 5 0 [] trivial fun x y=>by
 simp only [zcz_s,-eq_self,qAc,qAe,obA,obS,slL,slR,qAd];kernel_rfl
def zcz_w:CQ:=qCl [] zcz_c
theorem zcz_ok:qAg Tryz.prog 97 zcz_w:=qAn zcz_val
def zdb_q:IQ:=(.seq (rg 4 [oP 4 (.alloc 97 [.int .i64 0,.slice none 0 0,.string ⟨#[]⟩,.int .i64 0,.int .i64 0])]) (.seq (rg 0 [oM 5 t0,oM 6 t1,oP 7 (.build [.int .i64 0,.slice none 0 0,.string ⟨#[]⟩,.int .i64 0,.int .i64 0] [(3,1,t5),(4,1,t6)]),oN (.store 5 t4 t7)]) (.canon [(4,some 1,.node,70)] [4] .ret)))
def zdb_s (e at_:Int):Option qHs :=
 some (⟨(0:Int),[],(⟨#[]⟩:BA),e,at_⟩:qHs)
def zdb_c:CS:=mkC (qAa (dVC (dCO dZ)) (qAa (dVC (dCO dZ)) dNil)) dNil (fun x y=>zdb_s x.1 x.2.1) (fun x y r=>.c (.agg [.vI r.at_,.own 0,.vS r.s,.vI r.code,.vI r.bad])) fun x y r=>[.row .node 70 r.l]
theorem zdb_val:qAj Tryz.prog 98 zdb_c:=vl0 zdb_q [.cell 4 (some 5)] 8 5 0 [] trivial fun x y=>by
 simp only [zdb_s,-eq_self,qAc,qAe,obA,obS,slL,slR,qAd];kernel_rfl
def zdb_w:CQ:=qBs [] zdb_c
theorem zdb_ok:qAg Tryz.prog 98 zdb_w:=qB3 zdb_val
def zdd_q:IQ:=(.seq (rg 2 [oP 2 (.mv (vI 0))]) (.seq (.block 0 (.seq (rg 3 [oM 4 t0,oP 5 (.bi .geq t4 (vI 48)),oM 6 t5,oF 7 (.mv t0) 6,oF 8 (.bi .leq t7 (vI 57)) 6,oP 9 (.pick t6 t8 vF),oM 3 t9]) (.cond t3 (.seq (rg 2 [oM 10 t0,oP 11 (.bi .sub t10 (vI 48)),oM 2 t11]) (.cn [2] .ret)) (.seq (rg 12 [oM 13 t0,oP 14 (.bi .geq t13 (vI 97)),oM 15 t14,oF 16 (.mv t0) 15,oF 17 (.bi .leq t16 (vI 102)) 15,oP 18 (.pick t15 t17 vF),oM 12 t18]) (.cond t12 (.seq (rg 2 [oM 19 t0,oP 20 (.bi .sub t19 (vI 97)),oP 21 (.bi .add t20 (vI 10)),oM 2 t21]) (.cn [2] .ret)) (.seq (rg 22 [oM 23 t0,oP 24 (.bi .geq t23 (vI 65)),oM 25 t24,oF 26 (.mv t0) 25,oF 27 (.bi .leq t26 (vI 70)) 25,oP 28 (.pick t25 t27 vF),oM 22 t28]) (.cond t22 (.seq (rg 2 [oM 29 t0,oP 30 (.bi .sub t29 (vI 65)),oP 31 (.bi .add t30 (vI 10)),oM 2 t31]) (.cn [2] .ret)) .skip))))))) (.seq (rg 2 [oP 2 (.mv (.v (.int .i64 (-1))))]) (.cn [2] .ret))))
def zdd_s (c:Int):Option Int :=
 bif ((decide ((48:Int)≤c)) && (decide (c≤(57:Int)))) then (
  gd (qAf (c - (48:Int))) <|
  some (c - (48:Int)))
 else (
  bif ((decide ((97:Int)≤c)) && (decide (c≤(102:Int)))) then (
   gd (qAf (c - (97:Int))) <|
   gd (qAf ((c - (97:Int))+(10:Int))) <|
   some ((c - (97:Int))+(10:Int)))
  else (
   bif ((decide ((65:Int)≤c)) && (decide (c≤(70:Int)))) then (
    gd (qAf (c - (65:Int))) <|
    gd (qAf ((c - (65:Int))+(10:Int))) <|
    some ((c - (65:Int))+(10:Int)))
   else (
    some (-1:Int))))
def zdd_c:CS:=mkC (qAa (dVC (dCO dZ)) dNil) dNil (fun x y=>zdd_s x.1) (fun x y r=>.c (.o (.vI r))) fun x y r=>[]
theorem zdd_val:qAj Tryz.prog 129 zdd_c:=vl0 zdd_q [.tmp 2] 32 3 0 [] trivial fun x y=>by
 simp only [zdd_s,-eq_self,qAc,qAe,obA,obS,slL,slR,qAd];kernel_rfl
def zdd_w:CQ:=qCl [] zdd_c
theorem zdd_ok:qAg Tryz.prog 129 zdd_w:=qAn zdd_val
def zdc_b2:IQ:=(.join [] [0,1,2,3,9,10,11] (.seq (.seq (rg 65 [oM 65 t14]) (.cond t65 (.seq (rg 0 [oM 66 t3,oP 67 (.call 98 [(vI 33),t66]),oP 8 (.mv (vI 0)),oN (.store 5 t9 t67)]) (.canon [(9,some 1,.node,70)] [8,9] .ret)) .skip)) (rg 10 [oM 68 t10,oP 69 (.bi .mul (vI 16) t68),oM 70 t13,oP 71 (.bi .add t69 t70),oM 10 t71])))
def zdc_b1:IQ:=(.join [] [0,1,2,3,9,10,11] (.seq (.seq (rg 64 [oM 51 t2,oP 52 (.bi .eql t51 (vI 0)),oM 53 t52,oF 54 (.mv t11) 53,oF 55 (.bi .eql t54 (vI 1)) 53,oP 56 (.pick t53 t55 vF),oM 57 t56,oF 58 (.mv t10) 57,oF 59 (.bi .eql t58 (vI 13)) 57,oP 60 (.pick t57 t59 vF),oM 61 t60,oF 62 (.mv t13) 61,oF 63 (.bi .geq t62 (vI 12)) 61,oP 64 (.pick t61 t63 vF)]) (.cond t64 (rg 14 [oP 14 (.mv vT)]) .skip)) (.cn [0,1,2,3,9,10,11,13,14] (.sub 2 zdc_b2))))
def zdc_b0:IQ:=(.loop [0,1,2,3,9,10,11] (.seq (.seq (rg 16 [oM 15 t11,oP 16 (.bi .lss t15 (vI 4))]) (.cond t16 .skip (.cn [1,9,10] (.exit 0)))) (.seq (.block 1 (.seq (rg 12 [oM 19 t0,oM 20 t1,oM 21 t11,oP 22 (.bi .add t20 t21),oP 23 (.call 97 [t19,t22]),oM 12 t23]) (.seq (.seq (rg 25 [oM 24 t12,oP 25 (.bi .lss t24 (vI 0))]) (.cond t25 (.seq (rg 0 [oM 26 t0,oP 27 (.lenS t26),oP 28 (.call 98 [(vI 31),t27]),oP 8 (.mv (vI 0)),oN (.store 5 t9 t28)]) (.canon [(9,some 1,.node,70)] [8,9] .ret)) .skip)) (.seq (rg 13 [oM 29 t12,oP 30 (.call 129 [t29]),oM 13 t30]) (.seq (rg 14 [oM 31 t13,oP 32 (.bi .lss t31 (vI 0)),oM 14 t32]) (.seq (.seq (rg 50 [oM 33 t2,oP 34 (.bi .eql t33 (vI 2)),oM 35 t34,oF 36 (.mv t11) 35,oF 37 (.bi .eql t36 (vI 0)) 35,oF 38 (.mv t37) 35,oF 39 (.mv t13) 38,oF 40 (.bi .neq t39 (vI 13)) 38,oF 41 (.pick t38 t40 vF) 35,oF 42 (.mv t41) 35,oE 43 (.mv t11) 42,oE 44 (.bi .eql t43 (vI 1)) 42,oE 45 (.mv t44) 42,oF 46 (.mv t13) 45,oF 47 (.bi .lss t46 (vI 12)) 45,oE 48 (.pick t45 t47 vF) 42,oF 49 (.pick t42 vT t48) 35,oP 50 (.pick t35 t49 vF)]) (.cond t50 (rg 14 [oP 14 (.mv vT)]) .skip)) (.cn [0,1,2,3,9,10,11,13,14] (.sub 1 zdc_b1)))))))) (rg 11 [oM 17 t11,oP 18 (.bi .add t17 (vI 1)),oM 11 t18]))))
def zdc_q:IQ:=(.seq (rg 9 [oP 8 (.mv (vI 0)),oP 9 (.alloc 97 [.int .i64 0,.slice none 0 0,.string ⟨#[]⟩,.int .i64 0,.int .i64 0])]) (.seq (rg 10 [oP 10 (.mv (vI 0))]) (.seq (.seq (rg 11 [oP 11 (.mv (vI 0))]) (.block 0 (.cn [0,1,2,3,9,10,11] (.sub 0 zdc_b0)))) (.seq (rg 0 [oM 72 t10,oM 73 t1,oP 74 (.bi .add t73 (vI 4)),oP 75 (.build [.int .i64 0,.slice none 0 0,.string ⟨#[]⟩,.int .i64 0,.int .i64 0] [(0,1,t74)]),oM 8 t72,oN (.store 5 t9 t75)]) (.canon [(9,some 1,.node,70)] [8,9] .ret)))))
def zdc_p2 (from_ u d:Int) (bad:Bool):Option ((Int × Int × BA × Int × Int × (List Eng.Node)) ⊕ Int) :=
 bif bad then (
  (zdb_s (33:Int) from_).bind fun r18 =>
  some (.inl ((0:Int),r18.at_,r18.s,r18.code,r18.bad,r18.l)))
 else (
  gd (qAf ((16:Int)*u)) <|
  gd (qAf (((16:Int)*u)+d)) <|
  some (.inr (((16:Int)*u)+d)))
def zdc_p1 (half from_ u i d:Int) (bad:Bool):Option ((Int × Int × BA × Int × Int × (List Eng.Node)) ⊕ Int) :=
 bif ((((decide (half=(0:Int))) && (decide (i=(1:Int)))) && (decide (u=(13:Int)))) && (decide ((12:Int)≤d))) then (
  (zdc_p2 from_ u d true).bind fun o19=>(Sum.elim (fun (o19_0:Int × Int × BA × Int × Int × (List Eng.Node)) =>
   some (.inl (o19_0.1,o19_0.2.1,o19_0.2.2.1,o19_0.2.2.2.1,o19_0.2.2.2.2.1,o19_0.2.2.2.2.2))) (fun (o19_1:Int) =>
   some (.inr o19_1))) o19)
 else (
  (zdc_p2 from_ u d bad).bind fun o20=>(Sum.elim (fun (o20_0:Int × Int × BA × Int × Int × (List Eng.Node)) =>
   some (.inl (o20_0.1,o20_0.2.1,o20_0.2.2.1,o20_0.2.2.2.1,o20_0.2.2.2.2.1,o20_0.2.2.2.2.2))) (fun (o20_1:Int) =>
   some (.inr o20_1))) o20)
def qEn (t:BA) (at_ half from_ u i:Int):Option ((Int × Int) ⊕ ((Int × Int × BA × Int × Int × (List Eng.Node)) ⊕ Int)) :=
 bif decide (i<(4:Int)) then (
  gd (qAf (at_+i)) <|
  (zcz_s t (at_+i)).bind fun r15 =>
  bif decide (r15<(0:Int)) then (
   (zdb_s (31:Int) (t.size:Int)).bind fun r16 =>
   some (.inr (.inl ((0:Int),r16.at_,r16.s,r16.code,r16.bad,r16.l))))
  else (
   (zdd_s r15).bind fun r17 =>
   bif ((decide (half=(2:Int))) && (((decide (i=(0:Int))) && (!decide (r17=(13:Int)))) || ((decide (i=(1:Int))) && (decide (r17<(12:Int)))))) then (
    (zdc_p1 half from_ u i r17 true).bind fun o21=>(Sum.elim (fun (o21_0:Int × Int × BA × Int × Int × (List Eng.Node)) =>
     some (.inr (.inl (o21_0.1,o21_0.2.1,o21_0.2.2.1,o21_0.2.2.2.1,o21_0.2.2.2.2.1,o21_0.2.2.2.2.2)))) (fun (o21_1:Int) =>
     gd (qAf (i+(1:Int))) <|
     some (.inl (o21_1,(i+(1:Int)))))) o21)
   else (
    (zdc_p1 half from_ u i r17 (decide (r17<(0:Int)))).bind fun o22=>(Sum.elim (fun (o22_0:Int × Int × BA × Int × Int × (List Eng.Node)) =>
     some (.inr (.inl (o22_0.1,o22_0.2.1,o22_0.2.2.1,o22_0.2.2.2.1,o22_0.2.2.2.2.1,o22_0.2.2.2.2.2)))) (fun (o22_1:Int) =>
     gd (qAf (i+(1:Int))) <|
     some (.inl (o22_1,(i+(1:Int)))))) o22)))
 else (
  some (.inr (.inr u)))
def zdc_p0 (t:BA) (at_ half from_ u i:Int):Option ((Int × Int × BA × Int × Int × (List Eng.Node)) ⊕ Int) :=
 qAw (fun x:(Int × Int)=>qEn t at_ half from_ x.1 x.2) (u,i)
def zdc_s (t:BA) (at_ half from_:Int):Option (Int × qHs) :=
 (zdc_p0 t at_ half from_ (0:Int) (0:Int)).bind fun o23=>(Sum.elim (fun (o23_0:Int × Int × BA × Int × Int × (List Eng.Node)) =>
  some (o23_0.1,(⟨o23_0.2.1,o23_0.2.2.2.2.2,o23_0.2.2.1,o23_0.2.2.2.1,o23_0.2.2.2.2.1⟩:qHs))) (fun (o23_1:Int) =>
  gd (qAf (at_+(4:Int))) <|
  some (o23_1,(⟨(at_+(4:Int)),[],(⟨#[]⟩:BA),(0:Int),(0:Int)⟩:qHs)))) o23
def zdc_G:Nat→Option CQ:=tblQ [(97,zcz_w),(98,zdb_w),(129,zdd_w)]
def zDJQ2:=(qAa dS (qAa dZ (qAa dZ dNil)))
def zDJQ1:=(qEr 97 (qAa dZ (qAa dNS zDJQ2)))
def zdc_d2:=(dQS (qAa (dSO 0 dS) (qAa (dSO 1 dZ) (qAa (dSO 2 dZ) (qAa (dSO 3 dZ) (qAa (dSO 9 (dH 0 0)) (qAa (dSO 10 dZ) (qAa (dSO 11 dZ) (qAa (dSO 13 dZ) (qAa (dSO 14 dB) dNil))))))))) (qAa zDJQ1 dNil))
def zdc_l2:SubQ:=mkL zdc_d2 (fun x=>zdc_p2 x.1.2.2.2.1 x.1.2.2.2.2.2.1 x.1.2.2.2.2.2.2.2.1 x.1.2.2.2.2.2.2.2.2.1) fun x r R kn kx kr=>(Sum.elim (fun (r_0:Int × Int × BA × Int × Int × (List Eng.Node))=>kr ⟨[sL 8 (.vI r_0.1),sL 9 (.hd 0 0)],[],[.cells 97 [.vI r_0.2.1,.own 1,.vS r_0.2.2.1,.vI r_0.2.2.2.1,.vI r_0.2.2.2.2.1],.row .node 70 r_0.2.2.2.2.2]⟩) (fun (r_1:Int)=>kn ⟨[sL 0 (.vS x.1.1),sL 1 (.vI x.1.2.1),sL 2 (.vI x.1.2.2.1),sL 3 (.vI x.1.2.2.2.1),sL 9 (.hd 0 0),sL 10 (.vI r_1),sL 11 (.vI x.1.2.2.2.2.2.2.1)],[],[.cells 97 [.vI x.2.1.1,.val (.slice none 0 0),.vS x.2.1.2.2.1,.vI x.2.1.2.2.2.1,.vI x.2.1.2.2.2.2.1]]⟩)) r
def zdc_d1:=(dQS (qAa (dSO 0 dS) (qAa (dSO 1 dZ) (qAa (dSO 2 dZ) (qAa (dSO 3 dZ) (qAa (dSO 9 (dH 0 0)) (qAa (dSO 10 dZ) (qAa (dSO 11 dZ) (qAa (dSO 13 dZ) (qAa (dSO 14 dB) dNil))))))))) (qAa zDJQ1 dNil))
def zdc_l1:SubQ:=mkL zdc_d1 (fun x=>zdc_p1 x.1.2.2.1 x.1.2.2.2.1 x.1.2.2.2.2.2.1 x.1.2.2.2.2.2.2.1 x.1.2.2.2.2.2.2.2.1 x.1.2.2.2.2.2.2.2.2.1) fun x r R kn kx kr=>(Sum.elim (fun (r_0:Int × Int × BA × Int × Int × (List Eng.Node))=>kr ⟨[sL 8 (.vI r_0.1),sL 9 (.hd 0 0)],[],[.cells 97 [.vI r_0.2.1,.own 1,.vS r_0.2.2.1,.vI r_0.2.2.2.1,.vI r_0.2.2.2.2.1],.row .node 70 r_0.2.2.2.2.2]⟩) (fun (r_1:Int)=>kn ⟨[sL 0 (.vS x.1.1),sL 1 (.vI x.1.2.1),sL 2 (.vI x.1.2.2.1),sL 3 (.vI x.1.2.2.2.1),sL 9 (.hd 0 0),sL 10 (.vI r_1),sL 11 (.vI x.1.2.2.2.2.2.2.1)],[],[.cells 97 [.vI x.2.1.1,.val (.slice none 0 0),.vS x.2.1.2.2.1,.vI x.2.1.2.2.2.1,.vI x.2.1.2.2.2.2.1]]⟩)) r
def zdc_d0:=(dQS (qAa (dSO 0 dS) (qAa (dSO 1 dZ) (qAa (dSO 2 dZ) (qAa (dSO 3 dZ) (qAa (dSO 9 (dH 0 0)) (qAa (dSO 10 dZ) (qAa (dSO 11 dZ) dNil))))))) (qAa zDJQ1 dNil))
def zdc_l0:SubQ:=mkL zdc_d0 (fun x=>zdc_p0 x.1.1 x.1.2.1 x.1.2.2.1 x.1.2.2.2.1 x.1.2.2.2.2.2.1 x.1.2.2.2.2.2.2.1) fun x r R kn kx kr=>(Sum.elim (fun (r_0:Int × Int × BA × Int × Int × (List Eng.Node))=>kr ⟨[sL 8 (.vI r_0.1),sL 9 (.hd 0 0)],[],[.cells 97 [.vI r_0.2.1,.own 1,.vS r_0.2.2.1,.vI r_0.2.2.2.1,.vI r_0.2.2.2.2.1],.row .node 70 r_0.2.2.2.2.2]⟩) (fun (r_1:Int)=>kx 0 ⟨[sL 1 (.vI x.1.2.1),sL 9 (.hd 0 0),sL 10 (.vI r_1)],[],[.cells 97 [.vI x.2.1.1,.val (.slice none 0 0),.vS x.2.1.2.2.1,.vI x.2.1.2.2.2.1,.vI x.2.1.2.2.2.2.1]]⟩)) r
def zdc_L:Nat→SubQ:=tblL [(2,zdc_l2),(1,zdc_l1),(0,zdc_l0)]
theorem zdc_sub2:qA0 zdc_L zdc_G 0 15 76 2 zdc_b2:=qAp (show zdc_L 2=zdc_l2 from by kernel_rfl) fun x R kn kx kr=>by
 simp only [zdc_p2,-eq_self,qAc,qAe,obA,obS,slL,slR,qAd];kernel_rfl
theorem zdc_sub1:qA0 zdc_L zdc_G 0 15 76 1 zdc_b1:=qAp (show zdc_L 1=zdc_l1 from by kernel_rfl) fun x R kn kx kr=>by
 simp only [zdc_p1,-eq_self,qAc,qAe,obA,obS,slL,slR,qAd];kernel_rfl
theorem zdc_sub0:qA0 zdc_L zdc_G 0 15 76 0 zdc_b0:=qAp (show zdc_L 0=zdc_l0 from by kernel_rfl) fun x R kn kx kr=>qAm (step:=fun y=>qEn x.1.1 x.1.2.1 x.1.2.2.1 x.1.2.2.2.1 y.1 y.2) (enc:=fun (y:Int × Int)=>zdc_d0.e ((x.1.1,x.1.2.1,x.1.2.2.1,x.1.2.2.2.1,x.1.2.2.2.2.1,y.1,y.2,x.1.2.2.2.2.2.2.2),x.2)) (fun y=>by kernel_rfl) (fun y ki=>by simp only [qEn,-eq_self,qAc,qAe,obA,obS,slL,slR,qAd]; kernel_rfl) (x.1.2.2.2.2.2.1,x.1.2.2.2.2.2.2.1)
def zdc_c:CS:=mkC (qAa (dVC (dCO dS)) (qAa (dVC (dCO dZ)) (qAa (dVC (dCO dZ)) (qAa (dVC (dCO dZ)) dNil)))) dNil (fun x y=>zdc_s x.1 x.2.1 x.2.2.1 x.2.2.2.1) (fun x y r=>.tup [.o (.vI r.1),.agg [.vI r.2.at_,.own 0,.vS r.2.s,.vI r.2.code,.vI r.2.bad]]) fun x y r=>[.row .node 70 r.2.l]
theorem zdc_val:qAj Tryz.prog 125 zdc_c:=vl1 zdc_q [.tmp 8,.cell 9 (some 5)] 76 15 0 (show qAu zdc_L zdc_G 0 15 76 [(0,zdc_b0),(1,zdc_b1),(2,zdc_b2)] from ⟨zdc_sub0,zdc_sub1,zdc_sub2,tV⟩) (qAl ⟨zcz_ok,zdb_ok,zdd_ok,tV⟩) fun x y=>by
 simp only [zdc_s,-eq_self,qAc,qAe,obA,obS,slL,slR,qAd];kernel_rfl
def zdc_w:CQ:=qBs [] zdc_c
theorem zdc_ok:qAg Tryz.prog 125 zdc_w:=qB3 zdc_val
def zcx_q:IQ:=(.seq (rg 2 [oP 2 (.mv (.v (.string ⟨#[]⟩)))]) (.seq (.block 0 (.seq (rg 3 [oM 4 t0,oP 5 (.bi .lss t4 (vI 128)),oM 3 t5]) (.cond t3 (.seq (rg 2 [oM 6 t0,oP 7 (.conv false .u8 t6),oP 8 (.bslice 5 1 1 [.int .u8 0] [(0,t7)]),oP 9 (.ext .toStr [t8]),oM 2 t9]) (.cn [2] .ret)) (.seq (rg 10 [oM 11 t0,oP 12 (.bi .lss t11 (vI 2048)),oM 10 t12]) (.cond t10 (.seq (rg 2 [oM 13 t0,oP 14 (.bi .quo t13 (vI 64)),oP 15 (.bi .add (vI 192) t14),oP 16 (.conv false .u8 t15),oM 17 t0,oP 18 (.bi .rem t17 (vI 64)),oP 19 (.bi .add (vI 128) t18),oP 20 (.conv false .u8 t19),oP 21 (.bslice 5 1 2 [.int .u8 0] [(0,t16),(1,t20)]),oP 22 (.ext .toStr [t21]),oM 2 t22]) (.cn [2] .ret)) (.seq (rg 23 [oM 24 t0,oP 25 (.bi .lss t24 (vI 65536)),oM 23 t25]) (.cond t23 (.seq (rg 2 [oM 26 t0,oP 27 (.bi .quo t26 (vI 4096)),oP 28 (.bi .add (vI 224) t27),oP 29 (.conv false .u8 t28),oM 30 t0,oP 31 (.bi .quo t30 (vI 64)),oP 32 (.bi .rem t31 (vI 64)),oP 33 (.bi .add (vI 128) t32),oP 34 (.conv false .u8 t33),oM 35 t0,oP 36 (.bi .rem t35 (vI 64)),oP 37 (.bi .add (vI 128) t36),oP 38 (.conv false .u8 t37),oP 39 (.bslice 5 1 3 [.int .u8 0] [(0,t29),(1,t34),(2,t38)]),oP 40 (.ext .toStr [t39]),oM 2 t40]) (.cn [2] .ret)) .skip))))))) (.seq (rg 2 [oM 41 t0,oP 42 (.bi .quo t41 (vI 262144)),oP 43 (.bi .add (vI 240) t42),oP 44 (.conv false .u8 t43),oM 45 t0,oP 46 (.bi .quo t45 (vI 4096)),oP 47 (.bi .rem t46 (vI 64)),oP 48 (.bi .add (vI 128) t47),oP 49 (.conv false .u8 t48),oM 50 t0,oP 51 (.bi .quo t50 (vI 64)),oP 52 (.bi .rem t51 (vI 64)),oP 53 (.bi .add (vI 128) t52),oP 54 (.conv false .u8 t53),oM 55 t0,oP 56 (.bi .rem t55 (vI 64)),oP 57 (.bi .add (vI 128) t56),oP 58 (.conv false .u8 t57),oP 59 (.bslice 5 1 4 [.int .u8 0] [(0,t44),(1,t49),(2,t54),(3,t58)]),oP 60 (.ext .toStr [t59]),oM 2 t60]) (.cn [2] .ret))))
def zcx_s (u:Int):Option BA :=
 bif decide (u<(128:Int)) then (
  some (qBe [(u % 256)]))
 else (
  bif decide (u<(2048:Int)) then (
   gd (0≤u∧u≤9223372036854775807∧1≤(64:Int)) <|
   gd (qAf ((192:Int)+(u / (64:Int)))) <|
   gd (0≤u∧1≤(64:Int)) <|
   gd (qAf ((128:Int)+(u % (64:Int)))) <|
   some (qBe [(((192:Int)+(u / (64:Int))) % 256),(((128:Int)+(u % (64:Int))) % 256)]))
  else (
   bif decide (u<(65536:Int)) then (
    gd (0≤u∧u≤9223372036854775807∧1≤(4096:Int)) <|
    gd (qAf ((224:Int)+(u / (4096:Int)))) <|
    gd (0≤u∧u≤9223372036854775807∧1≤(64:Int)) <|
    gd (0≤(u / (64:Int))∧1≤(64:Int)) <|
    gd (qAf ((128:Int)+((u / (64:Int)) % (64:Int)))) <|
    gd (0≤u∧1≤(64:Int)) <|
    gd (qAf ((128:Int)+(u % (64:Int)))) <|
    some (qBe [(((224:Int)+(u / (4096:Int))) % 256),(((128:Int)+((u / (64:Int)) % (64:Int))) % 256),(((128:Int)+(u % (64:Int))) % 256)]))
   else (
    gd (0≤u∧u≤9223372036854775807∧1≤(262144:Int)) <|
    gd (qAf ((240:Int)+(u / (262144:Int)))) <|
    gd (0≤u∧u≤9223372036854775807∧1≤(4096:Int)) <|
    gd (0≤(u / (4096:Int))∧1≤(64:Int)) <|
    gd (qAf ((128:Int)+((u / (4096:Int)) % (64:Int)))) <|
    gd (0≤u∧u≤9223372036854775807∧1≤(64:Int)) <|
    gd (0≤(u / (64:Int))∧1≤(64:Int)) <|
    gd (qAf ((128:Int)+((u / (64:Int)) % (64:Int)))) <|
    gd (0≤u∧1≤(64:Int)) <|
    gd (qAf ((128:Int)+(u % (64:Int)))) <|
    some (qBe [(((240:Int)+(u / (262144:Int))) % 256),(((128:Int)+((u / (4096:Int)) % (64:Int))) % 256),(((128:Int)+((u / (64:Int)) % (64:Int))) % 256),(((128:Int)+(u % (64:Int))) % 256)]))))
def zcx_c:CS:=mkC (qAa (dVC (dCO dZ)) dNil) dNil (fun x y=>zcx_s x.1) (fun x y r=>.c (.o (.vS r))) fun x y r=>[]
theorem zcx_val:qAj Tryz.prog 126 zcx_c:=vl0 zcx_q [.tmp 2] 61 3 0 [] trivial fun x y=>by
 simp only [zcx_s,-eq_self,qAc,qAe,obA,obS,slL,slR,qAd];kernel_rfl
def zcx_w:CQ:=qCl [] zcx_c
theorem zcx_ok:qAg Tryz.prog 126 zcx_w:=qAn zcx_val
def zda_b1:IQ:=(.loop [0,1,4,7,8,9] (.seq (.seq (rg 64 [oM 63 t9,oP 64 (.bi .lss t63 (vI 2))]) (.cond t64 .skip (.cn [0,1,4,7,8] (.exit 1)))) (.seq (.block 2 (.seq (rg 10 [oM 67 t0,oP 68 (.faddr 0 t8),oP 69 (.load none t68),oM 70 t9,oP 71 (.bi .add t69 t70),oP 72 (.call 97 [t67,t71]),oM 10 t72]) (.seq (.seq (rg 74 [oM 73 t10,oP 74 (.bi .lss t73 (vI 0))]) (.cond t74 (.seq (rg 0 [oM 75 t0,oP 76 (.lenS t75),oP 77 (.call 98 [(vI 31),t76]),oN (.store 5 t4 t77)]) (.canon [(4,some 1,.node,70)] [4] .ret)) .skip)) (.seq (rg 91 [oM 78 t9,oP 79 (.bi .eql t78 (vI 0)),oM 80 t79,oF 81 (.mv t10) 80,oF 82 (.bi .neq t81 (vI 92)) 80,oP 83 (.pick t80 t82 vF),oM 84 t83,oE 85 (.mv t9) 84,oE 86 (.bi .eql t85 (vI 1)) 84,oE 87 (.mv t86) 84,oF 88 (.mv t10) 87,oF 89 (.bi .neq t88 (vI 117)) 87,oE 90 (.pick t87 t89 vF) 84,oP 91 (.pick t84 vT t90)]) (.cond t91 (.seq (rg 0 [oM 92 t1,oP 93 (.call 98 [(vI 33),t92]),oN (.store 5 t4 t93)]) (.canon [(4,some 1,.node,70)] [4] .ret)) .skip))))) (rg 9 [oM 65 t9,oP 66 (.bi .add t65 (vI 1)),oM 9 t66]))))
def zda_b0:IQ:=(.join [] [1,4,6] (.cond t23 (rg 6 [oM 27 t5,oM 6 t27]) (.seq (rg 28 [oP 29 (.bi .eql t17 (vI 98)),oM 28 t29]) (.cond t28 (rg 6 [oP 6 (.mv (vI 8))]) (.seq (rg 30 [oP 31 (.bi .eql t17 (vI 102)),oM 30 t31]) (.cond t30 (rg 6 [oP 6 (.mv (vI 12))]) (.seq (rg 32 [oP 33 (.bi .eql t17 (vI 110)),oM 32 t33]) (.cond t32 (rg 6 [oP 6 (.mv (vI 10))]) (.seq (rg 34 [oP 35 (.bi .eql t17 (vI 114)),oM 34 t35]) (.cond t34 (rg 6 [oP 6 (.mv (vI 13))]) (.seq (rg 36 [oP 37 (.bi .eql t17 (vI 116)),oM 36 t37]) (.cond t36 (rg 6 [oP 6 (.mv (vI 9))]) (.seq (rg 38 [oP 39 (.bi .eql t17 (vI 117)),oM 38 t39]) (.cond t38 (.seq (rg 0 [oM 41 t0,oM 42 t1,oP 43 (.bi .add t42 (vI 2)),oM 44 t1,oP 45 (.call 125 [t41,t43,(vI 0),t44]),oM 40 t45,oP 46 (.extract t40 0),oP 47 (.extract t40 1),oP 8 (.alloc 97 [.int .i64 0,.slice none 0 0,.string ⟨#[]⟩,.int .i64 0,.int .i64 0]),oM 7 t46,oN (.store 5 t8 t47)]) (.seq (.seq (rg 58 [oP 48 (.faddr 3 t8),oP 49 (.load none t48),oP 50 (.bi .neq t49 (vI 0)),oM 51 t50,oE 52 (.mv t7) 51,oE 53 (.bi .lss t52 (vI 55296)) 51,oP 54 (.pick t51 vT t53),oM 55 t54,oE 56 (.mv t7) 55,oE 57 (.bi .gtr t56 (vI 57343)) 55,oP 58 (.pick t55 vT t57)]) (.cond t58 (.seq (rg 0 [oM 59 t7,oP 60 (.call 126 [t59]),oP 61 (.faddr 2 t8),oN (.store 1 t61 t60)]) (.seq (rg 0 [oP 62 (.load (some 5) t8),oN (.store 5 t4 t62)]) (.canon [(4,some 1,.node,70)] [4] .ret))) .skip)) (.seq (.seq (rg 9 [oP 9 (.mv (vI 0))]) (.block 1 (.cn [0,1,4,7,8,9] (.sub 1 zda_b1)))) (.seq (rg 0 [oM 95 t0,oP 96 (.faddr 0 t8),oP 97 (.load none t96),oP 98 (.bi .add t97 (vI 2)),oM 99 t1,oP 100 (.call 125 [t95,t98,(vI 2),t99]),oM 94 t100,oP 101 (.extract t94 0),oP 102 (.extract t94 1),oP 12 (.alloc 97 [.int .i64 0,.slice none 0 0,.string ⟨#[]⟩,.int .i64 0,.int .i64 0]),oM 11 t101,oN (.store 5 t12 t102)]) (.seq (rg 0 [oM 103 t7,oP 104 (.bi .sub t103 (vI 55296)),oP 105 (.bi .mul (vI 1024) t104),oP 106 (.bi .add (vI 65536) t105),oM 107 t11,oP 108 (.bi .add t106 t107),oP 109 (.bi .sub t108 (vI 56320)),oP 110 (.call 126 [t109]),oP 111 (.faddr 2 t12),oN (.store 1 t111 t110)]) (.seq (rg 0 [oP 112 (.load (some 5) t12),oN (.store 5 t4 t112)]) (.canon [(4,some 1,.node,70)] [4] .ret))))))) .skip))))))))))))))
def zda_b2:IQ:=(.seq (.seq (rg 114 [oM 113 t6,oP 114 (.bi .lss t113 (vI 0))]) (.cond t114 (.seq (rg 0 [oM 115 t1,oP 116 (.call 98 [(vI 33),t115]),oN (.store 5 t4 t116)]) (.canon [(4,some 1,.node,70)] [4] .ret)) .skip)) (.seq (rg 0 [oM 117 t1,oP 118 (.bi .add t117 (vI 2)),oM 119 t6,oP 120 (.conv false .u8 t119),oP 121 (.bslice 5 1 1 [.int .u8 0] [(0,t120)]),oP 122 (.ext .toStr [t121]),oP 123 (.build [.int .i64 0,.slice none 0 0,.string ⟨#[]⟩,.int .i64 0,.int .i64 0] [(0,1,t118),(2,1,t122)]),oN (.store 5 t4 t123)]) (.canon [(4,some 1,.node,70)] [4] .ret)))
def zda_q:IQ:=(.seq (rg 4 [oP 4 (.alloc 97 [.int .i64 0,.slice none 0 0,.string ⟨#[]⟩,.int .i64 0,.int .i64 0])]) (.seq (rg 5 [oM 13 t0,oM 14 t1,oP 15 (.bi .add t14 (vI 1)),oP 16 (.call 97 [t13,t15]),oM 5 t16]) (.seq (rg 6 [oP 6 (.mv (.v (.int .i64 (-1))))]) (.seq (.seq (rg 17 [oM 17 t5]) (.block 0 (.seq (rg 18 [oP 19 (.bi .eql t17 (.v (.int .i64 (-1)))),oM 18 t19]) (.cond t18 (.seq (rg 0 [oM 20 t0,oP 21 (.lenS t20),oP 22 (.call 98 [(vI 31),t21]),oN (.store 5 t4 t22)]) (.canon [(4,some 1,.node,70)] [4] .ret)) (.seq (.seq (rg 23 [oP 24 (.bi .eql t17 (vI 34)),oM 23 t24]) (.cond t23 .skip (.seq (rg 23 [oP 25 (.bi .eql t17 (vI 92)),oM 23 t25]) (.cond t23 .skip (rg 23 [oP 26 (.bi .eql t17 (vI 47)),oM 23 t26]))))) (.cn [0,1,4,5,6,17,23] (.sub 0 zda_b0))))))) (.cn [1,4,6] (.sub 2 zda_b2))))))
def qC4 (t:BA) (from_ i g_At:Int):Option (Int ⊕ ((Int × BA × Int × Int × (List Eng.Node)) ⊕ Unit)) :=
 bif decide (i<(2:Int)) then (
  gd (qAf (g_At+i)) <|
  (zcz_s t (g_At+i)).bind fun r14 =>
  bif decide (r14<(0:Int)) then (
   (zdb_s (31:Int) (t.size:Int)).bind fun r15 =>
   some (.inr (.inl (r15.at_,r15.s,r15.code,r15.bad,r15.l))))
  else (
   bif (((decide (i=(0:Int))) && (!decide (r14=(92:Int)))) || ((decide (i=(1:Int))) && (!decide (r14=(117:Int))))) then (
    (zdb_s (33:Int) from_).bind fun r16 =>
    some (.inr (.inl (r16.at_,r16.s,r16.code,r16.bad,r16.l))))
   else (
    gd (qAf (i+(1:Int))) <|
    some (.inl (i+(1:Int))))))
 else (
  some (.inr (.inr ())))
def zda_p1 (t:BA) (from_ i g_At:Int):Option ((Int × BA × Int × Int × (List Eng.Node)) ⊕ Unit) :=
 qAw (fun x:Int=>qC4 t from_ x g_At) i
def zda_p0 (t:BA) (from_ c said x17_:Int) (x23_:Bool):Option (Int ⊕ (Int × BA × Int × Int × (List Eng.Node))) :=
 bif x23_ then (
  some (.inl c))
 else (
  bif decide (x17_=(98:Int)) then (
   some (.inl (8:Int)))
  else (
   bif decide (x17_=(102:Int)) then (
    some (.inl (12:Int)))
   else (
    bif decide (x17_=(110:Int)) then (
     some (.inl (10:Int)))
    else (
     bif decide (x17_=(114:Int)) then (
      some (.inl (13:Int)))
     else (
      bif decide (x17_=(116:Int)) then (
       some (.inl (9:Int)))
      else (
       bif decide (x17_=(117:Int)) then (
        gd (qAf (from_+(2:Int))) <|
        (zdc_s t (from_+(2:Int)) (0:Int) from_).bind fun r12 =>
        bif (((!decide (r12.2.code=(0:Int))) || (decide (r12.1<(55296:Int)))) || (decide ((57343:Int)<r12.1))) then (
         (zcx_s r12.1).bind fun r13 =>
         some (.inr (r12.2.at_,r13,r12.2.code,r12.2.bad,r12.2.l)))
        else (
         (zda_p1 t from_ (0:Int) r12.2.at_).bind fun o17=>(Sum.elim (fun (o17_0:Int × BA × Int × Int × (List Eng.Node)) =>
          some (.inr (o17_0.1,o17_0.2.1,o17_0.2.2.1,o17_0.2.2.2.1,o17_0.2.2.2.2))) (fun (o17_1:Unit) =>
          gd (qAf (r12.2.at_+(2:Int))) <|
          (zdc_s t (r12.2.at_+(2:Int)) (2:Int) from_).bind fun r18 =>
          gd (qAf (r12.1 - (55296:Int))) <|
          gd (qAf ((1024:Int)*(r12.1 - (55296:Int)))) <|
          gd (qAf ((65536:Int)+((1024:Int)*(r12.1 - (55296:Int))))) <|
          gd (qAf (((65536:Int)+((1024:Int)*(r12.1 - (55296:Int))))+r18.1)) <|
          gd (qAf ((((65536:Int)+((1024:Int)*(r12.1 - (55296:Int))))+r18.1) - (56320:Int))) <|
          (zcx_s ((((65536:Int)+((1024:Int)*(r12.1 - (55296:Int))))+r18.1) - (56320:Int))).bind fun r19 =>
          some (.inr (r18.2.at_,r19,r18.2.code,r18.2.bad,r18.2.l)))) o17))
       else (
        some (.inl said))))))))
def zda_p2 (from_ said:Int):Option (Int × BA × Int × Int × (List Eng.Node)) :=
 bif decide (said<(0:Int)) then (
  (zdb_s (33:Int) from_).bind fun r21 =>
  some (r21.at_,r21.s,r21.code,r21.bad,r21.l))
 else (
  gd (qAf (from_+(2:Int))) <|
  some ((from_+(2:Int)),(qBe [(said % 256)]),(0:Int),(0:Int),[]))
def zda_s (t:BA) (from_:Int):Option qHs :=
 gd (qAf (from_+(1:Int))) <|
 (zcz_s t (from_+(1:Int))).bind fun r10 =>
 bif decide (r10=(-1:Int)) then (
  (zdb_s (31:Int) (t.size:Int)).bind fun r11 =>
  some r11)
 else (
  bif decide (r10=(34:Int)) then (
   (zda_p0 t from_ r10 (-1:Int) r10 (decide (r10=(34:Int)))).bind fun o20=>(Sum.elim (fun (o20_0:Int) =>
    (zda_p2 from_ o20_0).bind fun o22 =>
    some (⟨o22.1,o22.2.2.2.2,o22.2.1,o22.2.2.1,o22.2.2.2.1⟩:qHs)) (fun (o20_1:Int × BA × Int × Int × (List Eng.Node)) =>
    some (⟨o20_1.1,o20_1.2.2.2.2,o20_1.2.1,o20_1.2.2.1,o20_1.2.2.2.1⟩:qHs))) o20)
  else (
   bif decide (r10=(92:Int)) then (
    (zda_p0 t from_ r10 (-1:Int) r10 (decide (r10=(92:Int)))).bind fun o23=>(Sum.elim (fun (o23_0:Int) =>
     (zda_p2 from_ o23_0).bind fun o24 =>
     some (⟨o24.1,o24.2.2.2.2,o24.2.1,o24.2.2.1,o24.2.2.2.1⟩:qHs)) (fun (o23_1:Int × BA × Int × Int × (List Eng.Node)) =>
     some (⟨o23_1.1,o23_1.2.2.2.2,o23_1.2.1,o23_1.2.2.1,o23_1.2.2.2.1⟩:qHs))) o23)
   else (
    (zda_p0 t from_ r10 (-1:Int) r10 (decide (r10=(47:Int)))).bind fun o25=>(Sum.elim (fun (o25_0:Int) =>
     (zda_p2 from_ o25_0).bind fun o26 =>
     some (⟨o26.1,o26.2.2.2.2,o26.2.1,o26.2.2.1,o26.2.2.2.1⟩:qHs)) (fun (o25_1:Int × BA × Int × Int × (List Eng.Node)) =>
     some (⟨o25_1.1,o25_1.2.2.2.2,o25_1.2.1,o25_1.2.2.1,o25_1.2.2.2.1⟩:qHs))) o25)))
def zda_G:Nat→Option CQ:=tblQ [(97,zcz_w),(98,zdb_w),(125,zdc_w),(126,zcx_w)]
def zda_d1:=(dQS (qAa (dSO 0 dS) (qAa (dSO 1 dZ) (qAa (dSO 4 (dH 0 0)) (qAa (dSO 7 dZ) (qAa (dSO 8 (dH 1 0)) (qAa (dSO 9 dZ) dNil)))))) (qAa zDJQ1 (qAa (qEr 97 (qAa dZ (qAa (dO 2) zDJQ2))) (qAa (dRow .node 70) dNil))))
def zda_l1:SubQ:=mkL zda_d1 (fun x=>zda_p1 x.1.1 x.1.2.1 x.1.2.2.2.2.2.1 x.2.2.1.1) fun x r R kn kx kr=>(Sum.elim (fun (r_0:Int × BA × Int × Int × (List Eng.Node))=>kr ⟨[sL 4 (.hd 0 0)],[],[.cells 97 [.vI r_0.1,.own 1,.vS r_0.2.1,.vI r_0.2.2.1,.vI r_0.2.2.2.1],.row .node 70 r_0.2.2.2.2]⟩) (fun (r_1:Unit)=>kx 1 ⟨[sL 0 (.vS x.1.1),sL 1 (.vI x.1.2.1),sL 4 (.hd 0 0),sL 7 (.vI x.1.2.2.2.1),sL 8 (.hd 1 0)],[],[.cells 97 [.vI x.2.1.1,.val (.slice none 0 0),.vS x.2.1.2.2.1,.vI x.2.1.2.2.2.1,.vI x.2.1.2.2.2.2.1],.cells 97 [.vI x.2.2.1.1,.own 2,.vS x.2.2.1.2.2.1,.vI x.2.2.1.2.2.2.1,.vI x.2.2.1.2.2.2.2.1],.row .node 70 x.2.2.2.1]⟩)) r
def zda_d0:=(dQS (qAa (dSO 0 dS) (qAa (dSO 1 dZ) (qAa (dSO 4 (dH 0 0)) (qAa (dSO 5 dZ) (qAa (dSO 6 dZ) (qAa (dSO 17 dZ) (qAa (dSO 23 dB) dNil))))))) (qAa zDJQ1 dNil))
def zda_l0:SubQ:=mkL zda_d0 (fun x=>zda_p0 x.1.1 x.1.2.1 x.1.2.2.2.1 x.1.2.2.2.2.1 x.1.2.2.2.2.2.1 x.1.2.2.2.2.2.2.1) fun x r R kn kx kr=>(Sum.elim (fun (r_0:Int)=>kn ⟨[sL 1 (.vI x.1.2.1),sL 4 (.hd 0 0),sL 6 (.vI r_0)],[],[.cells 97 [.vI x.2.1.1,.val (.slice none 0 0),.vS x.2.1.2.2.1,.vI x.2.1.2.2.2.1,.vI x.2.1.2.2.2.2.1]]⟩) (fun (r_1:Int × BA × Int × Int × (List Eng.Node))=>kr ⟨[sL 4 (.hd 0 0)],[],[.cells 97 [.vI r_1.1,.own 1,.vS r_1.2.1,.vI r_1.2.2.1,.vI r_1.2.2.2.1],.row .node 70 r_1.2.2.2.2]⟩)) r
def zda_d2:=(dQS (qAa (dSO 1 dZ) (qAa (dSO 4 (dH 0 0)) (qAa (dSO 6 dZ) dNil))) (qAa zDJQ1 dNil))
def zda_l2:SubQ:=mkL zda_d2 (fun x=>zda_p2 x.1.1 x.1.2.2.1) fun x r R kn kx kr=>kr ⟨[sL 4 (.hd 0 0)],[],[.cells 97 [.vI r.1,.own 1,.vS r.2.1,.vI r.2.2.1,.vI r.2.2.2.1],.row .node 70 r.2.2.2.2]⟩
def zda_L:Nat→SubQ:=tblL [(1,zda_l1),(0,zda_l0),(2,zda_l2)]
theorem zda_sub1:qA0 zda_L zda_G 0 18 124 1 zda_b1:=qAp (show zda_L 1=zda_l1 from by kernel_rfl) fun x R kn kx kr=>qAm (step:=fun y=>qC4 x.1.1 x.1.2.1 y x.2.2.1.1) (enc:=fun (y:Int)=>zda_d1.e ((x.1.1,x.1.2.1,x.1.2.2.1,x.1.2.2.2.1,x.1.2.2.2.2.1,y,x.1.2.2.2.2.2.2),x.2)) (fun y=>by kernel_rfl) (fun y ki=>by simp only [qC4,-eq_self,qAc,qAe,obA,obS,slL,slR,qAd]; kernel_rfl) x.1.2.2.2.2.2.1
theorem zda_sub0:qA0 zda_L zda_G 0 18 124 0 zda_b0:=qAp (show zda_L 0=zda_l0 from by kernel_rfl) fun x R kn kx kr=>by
 simp only [zda_p0,-eq_self,qAc,qAe,obA,obS,slL,slR,qAd];kernel_rfl
theorem zda_sub2:qA0 zda_L zda_G 0 18 124 2 zda_b2:=qAp (show zda_L 2=zda_l2 from by kernel_rfl) fun x R kn kx kr=>by
 simp only [zda_p2,-eq_self,qAc,qAe,obA,obS,slL,slR,qAd];kernel_rfl
def zda_c:CS:=mkC (qAa (dVC (dCO dS)) (qAa (dVC (dCO dZ)) dNil)) dNil (fun x y=>zda_s x.1 x.2.1) (fun x y r=>.c (.agg [.vI r.at_,.own 0,.vS r.s,.vI r.code,.vI r.bad])) fun x y r=>[.row .node 70 r.l]
theorem zda_val:qAj Tryz.prog 113 zda_c:=vl1 zda_q [.cell 4 (some 5)] 124 18 0 (show qAu zda_L zda_G 0 18 124 [(0,zda_b0),(1,zda_b1),(2,zda_b2)] from ⟨zda_sub0,zda_sub1,zda_sub2,tV⟩) (qAl ⟨zcz_ok,zdb_ok,zdc_ok,zcx_ok,tV⟩) fun x y=>by
 simp only [zda_s,-eq_self,qAc,qAe,obA,obS,slL,slR,qAd];kernel_rfl
def zda_w:CQ:=qBs [] zda_c
theorem zda_ok:qAg Tryz.prog 113 zda_w:=qB3 zda_val
def zcy_q:IQ:=(.seq (rg 4 [oP 2 (.mv (vI 0)),oP 3 (.mv (vI 0)),oP 4 (.mv (vI 0))]) (.seq (.block 0 (.seq (rg 5 [oM 6 t0,oP 7 (.bi .lss t6 (vI 194)),oM 8 t7,oE 9 (.mv t0) 8,oE 10 (.bi .gtr t9 (vI 244)) 8,oP 11 (.pick t8 vT t10),oM 5 t11]) (.cond t5 (.seq (rg 4 [oP 2 (.mv (.v (.int .i64 (-1)))),oP 3 (.mv (vI 0)),oP 4 (.mv (vI 0))]) (.cn [2,3,4] .ret)) (.seq (rg 12 [oM 13 t0,oP 14 (.bi .lss t13 (vI 224)),oM 12 t14]) (.cond t12 (.seq (rg 4 [oP 2 (.mv (vI 1)),oP 3 (.mv (vI 128)),oP 4 (.mv (vI 191))]) (.cn [2,3,4] .ret)) (.seq (rg 15 [oM 16 t0,oP 17 (.bi .eql t16 (vI 224)),oM 15 t17]) (.cond t15 (.seq (rg 4 [oP 2 (.mv (vI 2)),oP 3 (.mv (vI 160)),oP 4 (.mv (vI 191))]) (.cn [2,3,4] .ret)) (.seq (rg 18 [oM 19 t0,oP 20 (.bi .eql t19 (vI 237)),oM 18 t20]) (.cond t18 (.seq (rg 4 [oP 2 (.mv (vI 2)),oP 3 (.mv (vI 128)),oP 4 (.mv (vI 159))]) (.cn [2,3,4] .ret)) (.seq (rg 21 [oM 22 t0,oP 23 (.bi .lss t22 (vI 240)),oM 21 t23]) (.cond t21 (.seq (rg 4 [oP 2 (.mv (vI 2)),oP 3 (.mv (vI 128)),oP 4 (.mv (vI 191))]) (.cn [2,3,4] .ret)) (.seq (rg 24 [oM 25 t0,oP 26 (.bi .eql t25 (vI 240)),oM 24 t26]) (.cond t24 (.seq (rg 4 [oP 2 (.mv (vI 3)),oP 3 (.mv (vI 144)),oP 4 (.mv (vI 191))]) (.cn [2,3,4] .ret)) (.seq (rg 27 [oM 28 t0,oP 29 (.bi .eql t28 (vI 244)),oM 27 t29]) (.cond t27 (.seq (rg 4 [oP 2 (.mv (vI 3)),oP 3 (.mv (vI 128)),oP 4 (.mv (vI 143))]) (.cn [2,3,4] .ret)) .skip))))))))))))))) (.seq (rg 4 [oP 2 (.mv (vI 3)),oP 3 (.mv (vI 128)),oP 4 (.mv (vI 191))]) (.cn [2,3,4] .ret))))
def zcy_s (c:Int):Option (Int × Int × Int) :=
 bif ((decide (c<(194:Int))) || (decide ((244:Int)<c))) then (
  some ((-1:Int),(0:Int),(0:Int)))
 else (
  bif decide (c<(224:Int)) then (
   some ((1:Int),(128:Int),(191:Int)))
  else (
   bif decide (c=(224:Int)) then (
    some ((2:Int),(160:Int),(191:Int)))
   else (
    bif decide (c=(237:Int)) then (
     some ((2:Int),(128:Int),(159:Int)))
    else (
     bif decide (c<(240:Int)) then (
      some ((2:Int),(128:Int),(191:Int)))
     else (
      bif decide (c=(240:Int)) then (
       some ((3:Int),(144:Int),(191:Int)))
      else (
       bif decide (c=(244:Int)) then (
        some ((3:Int),(128:Int),(143:Int)))
       else (
        some ((3:Int),(128:Int),(191:Int)))))))))
def zcy_c:CS:=mkC (qAa (dVC (dCO dZ)) dNil) dNil (fun x y=>zcy_s x.1) (fun x y r=>.tup [.o (.vI r.1),.o (.vI r.2.1),.o (.vI r.2.2)]) fun x y r=>[]
theorem zcy_val:qAj Tryz.prog 127 zcy_c:=vl0 zcy_q [.tmp 2,.tmp 3,.tmp 4] 30 5 0 [] trivial fun x y=>by
 simp only [zcy_s,-eq_self,qAc,qAe,obA,obS,slL,slR,qAd];kernel_rfl
def zcy_w:CQ:=qCl [] zcy_c
theorem zcy_ok:qAg Tryz.prog 127 zcy_w:=qAn zcy_val
def zdf_b0:IQ:=(.loop [0,1,4,5,6,7,8] (.seq (.seq (rg 25 [oM 23 t8,oM 24 t5,oP 25 (.bi .leq t23 t24)]) (.cond t25 .skip (.cn [0,1,4,5] (.exit 0)))) (.seq (.block 1 (.seq (rg 9 [oM 28 t0,oM 29 t1,oM 30 t8,oP 31 (.bi .add t29 t30),oP 32 (.call 97 [t28,t31]),oM 9 t32]) (.seq (.seq (rg 34 [oM 33 t9,oP 34 (.bi .lss t33 (vI 0))]) (.cond t34 (.seq (rg 0 [oM 35 t0,oP 36 (.lenS t35),oP 37 (.call 98 [(vI 31),t36]),oN (.store 5 t4 t37)]) (.canon [(4,some 1,.node,70)] [4] .ret)) .skip)) (.seq (.seq (rg 45 [oM 38 t9,oM 39 t6,oP 40 (.bi .lss t38 t39),oM 41 t40,oE 42 (.mv t9) 41,oE 43 (.mv t7) 41,oE 44 (.bi .gtr t42 t43) 41,oP 45 (.pick t41 vT t44)]) (.cond t45 (.seq (rg 0 [oM 46 t1,oP 47 (.call 98 [(vI 32),t46]),oN (.store 5 t4 t47)]) (.canon [(4,some 1,.node,70)] [4] .ret)) .skip)) (.seq (rg 6 [oP 6 (.mv (vI 128))]) (rg 7 [oP 7 (.mv (vI 191))])))))) (rg 8 [oM 26 t8,oP 27 (.bi .add t26 (vI 1)),oM 8 t27]))))
def zdf_q:IQ:=(.seq (rg 4 [oP 4 (.alloc 97 [.int .i64 0,.slice none 0 0,.string ⟨#[]⟩,.int .i64 0,.int .i64 0])]) (.seq (rg 7 [oM 11 t0,oM 12 t1,oP 13 (.index t11 t12),oP 14 (.conv false .i64 t13),oP 15 (.call 127 [t14]),oM 10 t15,oP 16 (.extract t10 0),oP 17 (.extract t10 1),oP 18 (.extract t10 2),oM 5 t16,oM 6 t17,oM 7 t18]) (.seq (.seq (rg 20 [oM 19 t5,oP 20 (.bi .lss t19 (vI 0))]) (.cond t20 (.seq (rg 0 [oM 21 t1,oP 22 (.call 98 [(vI 32),t21]),oN (.store 5 t4 t22)]) (.canon [(4,some 1,.node,70)] [4] .ret)) .skip)) (.seq (.seq (rg 8 [oP 8 (.mv (vI 1))]) (.block 0 (.cn [0,1,4,5,6,7,8] (.sub 0 zdf_b0)))) (.seq (rg 0 [oM 48 t1,oM 49 t5,oP 50 (.bi .add t48 t49),oP 51 (.bi .add t50 (vI 1)),oM 52 t0,oM 53 t1,oM 54 t1,oM 55 t5,oP 56 (.bi .add t54 t55),oP 57 (.bi .add t56 (vI 1)),oP 58 (.sub none t52 (some t53) (some t57)),oP 59 (.build [.int .i64 0,.slice none 0 0,.string ⟨#[]⟩,.int .i64 0,.int .i64 0] [(0,1,t51),(2,1,t58)]),oN (.store 5 t4 t59)]) (.canon [(4,some 1,.node,70)] [4] .ret))))))
def qDt (t:BA) (at_ n low high i:Int):Option ((Int × Int × Int) ⊕ ((Int × BA × Int × Int × (List Eng.Node)) ⊕ Unit)) :=
 bif decide (i≤n) then (
  gd (qAf (at_+i)) <|
  (zcz_s t (at_+i)).bind fun r18 =>
  bif decide (r18<(0:Int)) then (
   (zdb_s (31:Int) (t.size:Int)).bind fun r19 =>
   some (.inr (.inl (r19.at_,r19.s,r19.code,r19.bad,r19.l))))
  else (
   bif ((decide (r18<low)) || (decide (high<r18))) then (
    (zdb_s (32:Int) at_).bind fun r20 =>
    some (.inr (.inl (r20.at_,r20.s,r20.code,r20.bad,r20.l))))
   else (
    gd (qAf (i+(1:Int))) <|
    some (.inl ((128:Int),(191:Int),(i+(1:Int)))))))
 else (
  some (.inr (.inr ())))
def zdf_p0 (t:BA) (at_ n low high i:Int):Option ((Int × BA × Int × Int × (List Eng.Node)) ⊕ Unit) :=
 qAw (fun x:(Int × Int × Int)=>qDt t at_ n x.1 x.2.1 x.2.2) (low,high,i)
def zdf_s (t:BA) (at_:Int):Option qHs :=
 gd (0≤at_∧at_<t.size) <|
 gd (qAf (bAt t at_)) <|
 (zcy_s (bAt t at_)).bind fun r16 =>
 bif decide (r16.1<(0:Int)) then (
  (zdb_s (32:Int) at_).bind fun r17 =>
  some r17)
 else (
  (zdf_p0 t at_ r16.1 r16.2.1 r16.2.2 (1:Int)).bind fun o21=>(Sum.elim (fun (o21_0:Int × BA × Int × Int × (List Eng.Node)) =>
   some (⟨o21_0.1,o21_0.2.2.2.2,o21_0.2.1,o21_0.2.2.1,o21_0.2.2.2.1⟩:qHs)) (fun (o21_1:Unit) =>
   gd (qAf (at_+r16.1)) <|
   gd (qAf ((at_+r16.1)+(1:Int))) <|
   gd (qAf (at_+r16.1)) <|
   gd (qAf ((at_+r16.1)+(1:Int))) <|
   gd (0≤at_∧at_≤((at_+r16.1)+(1:Int))∧((at_+r16.1)+(1:Int))≤t.size) <|
   some (⟨((at_+r16.1)+(1:Int)),[],(t.extract (Int.toNat at_) (Int.toNat ((at_+r16.1)+(1:Int)))),(0:Int),(0:Int)⟩:qHs))) o21)
def zdf_G:Nat→Option CQ:=tblQ [(127,zcy_w),(98,zdb_w),(97,zcz_w)]
def zdf_d0:=(dQS (qAa (dSO 0 dS) (qAa (dSO 1 dZ) (qAa (dSO 4 (dH 0 0)) (qAa (dSO 5 dZ) (qAa (dSO 6 dZ) (qAa (dSO 7 dZ) (qAa (dSO 8 dZ) dNil))))))) (qAa zDJQ1 dNil))
def zdf_l0:SubQ:=mkL zdf_d0 (fun x=>zdf_p0 x.1.1 x.1.2.1 x.1.2.2.2.1 x.1.2.2.2.2.1 x.1.2.2.2.2.2.1 x.1.2.2.2.2.2.2.1) fun x r R kn kx kr=>(Sum.elim (fun (r_0:Int × BA × Int × Int × (List Eng.Node))=>kr ⟨[sL 4 (.hd 0 0)],[],[.cells 97 [.vI r_0.1,.own 1,.vS r_0.2.1,.vI r_0.2.2.1,.vI r_0.2.2.2.1],.row .node 70 r_0.2.2.2.2]⟩) (fun (r_1:Unit)=>kx 0 ⟨[sL 0 (.vS x.1.1),sL 1 (.vI x.1.2.1),sL 4 (.hd 0 0),sL 5 (.vI x.1.2.2.2.1)],[],[.cells 97 [.vI x.2.1.1,.val (.slice none 0 0),.vS x.2.1.2.2.1,.vI x.2.1.2.2.2.1,.vI x.2.1.2.2.2.2.1]]⟩)) r
def zdf_L:Nat→SubQ:=tblL [(0,zdf_l0)]
theorem zdf_sub0:qA0 zdf_L zdf_G 0 10 60 0 zdf_b0:=qAp (show zdf_L 0=zdf_l0 from by kernel_rfl) fun x R kn kx kr=>qAm (step:=fun y=>qDt x.1.1 x.1.2.1 x.1.2.2.2.1 y.1 y.2.1 y.2.2) (enc:=fun (y:Int × Int × Int)=>zdf_d0.e ((x.1.1,x.1.2.1,x.1.2.2.1,x.1.2.2.2.1,y.1,y.2.1,y.2.2,x.1.2.2.2.2.2.2.2),x.2)) (fun y=>by kernel_rfl) (fun y ki=>by simp only [qDt,-eq_self,qAc,qAe,obA,obS,slL,slR,qAd]; kernel_rfl) (x.1.2.2.2.2.1,x.1.2.2.2.2.2.1,x.1.2.2.2.2.2.2.1)
def zdf_c:CS:=mkC (qAa (dVC (dCO dS)) (qAa (dVC (dCO dZ)) dNil)) dNil (fun x y=>zdf_s x.1 x.2.1) (fun x y r=>.c (.agg [.vI r.at_,.own 0,.vS r.s,.vI r.code,.vI r.bad])) fun x y r=>[.row .node 70 r.l]
theorem zdf_val:qAj Tryz.prog 114 zdf_c:=vl1 zdf_q [.cell 4 (some 5)] 60 10 0 (show qAu zdf_L zdf_G 0 10 60 [(0,zdf_b0)] from ⟨zdf_sub0,tV⟩) (qAl ⟨zcy_ok,zdb_ok,zcz_ok,tV⟩) fun x y=>by
 simp only [zdf_s,-eq_self,qAc,qAe,obA,obS,slL,slR,qAd];kernel_rfl
def zdf_w:CQ:=qBs [] zdf_c
theorem zdf_ok:qAg Tryz.prog 114 zdf_w:=qB3 zdf_val
def zde_b1:IQ:=(.join [] [0,1,4,5] (.seq (.seq (rg 46 [oP 44 (.faddr 3 t7),oP 45 (.load none t44),oP 46 (.bi .neq t45 (vI 0))]) (.cond t46 (.seq (rg 0 [oP 47 (.load (some 5) t7),oN (.store 5 t4 t47)]) (.canon [(4,some 1,.node,70)] [4] .ret)) .skip)) (.seq (rg 5 [oM 48 t5,oP 49 (.faddr 2 t7),oP 50 (.load none t49),oP 51 (.ext (.appStr 5) [t48,t50]),oM 5 t51]) (rg 1 [oP 52 (.faddr 0 t7),oP 53 (.load none t52),oM 1 t53]))))
def zde_b0:IQ:=(.loop [0,1,4,5] (.block 1 (.seq (rg 6 [oM 8 t0,oM 9 t1,oP 10 (.call 97 [t8,t9]),oM 6 t10]) (.seq (rg 7 [oP 7 (.alloc 97 [.int .i64 0,.slice none 0 0,.string ⟨#[]⟩,.int .i64 0,.int .i64 0])]) (.seq (.block 2 (.seq (rg 14 [oM 15 t6,oP 16 (.bi .lss t15 (vI 32)),oM 14 t16]) (.cond t14 (.seq (rg 0 [oM 17 t1,oP 18 (.call 98 [(vI 31),t17]),oN (.store 5 t4 t18)]) (.canon [(4,some 1,.node,70)] [4] .ret)) (.seq (rg 19 [oM 20 t6,oP 21 (.bi .eql t20 (vI 34)),oM 19 t21]) (.cond t19 (.seq (rg 0 [oM 22 t1,oP 23 (.bi .add t22 (vI 1)),oM 24 t5,oP 25 (.ext .toStr [t24]),oP 26 (.build [.int .i64 0,.slice none 0 0,.string ⟨#[]⟩,.int .i64 0,.int .i64 0] [(0,1,t23),(2,1,t25)]),oN (.store 5 t4 t26)]) (.canon [(4,some 1,.node,70)] [4] .ret)) (.seq (rg 27 [oM 28 t6,oP 29 (.bi .eql t28 (vI 92)),oM 27 t29]) (.cond t27 (rg 0 [oM 30 t0,oM 31 t1,oP 32 (.call 113 [t30,t31]),oN (.store 5 t7 t32)]) (.seq (rg 33 [oM 34 t6,oP 35 (.bi .lss t34 (vI 128)),oM 33 t35]) (.cond t33 (rg 0 [oM 36 t1,oP 37 (.bi .add t36 (vI 1)),oM 38 t0,oM 39 t1,oM 40 t1,oP 41 (.bi .add t40 (vI 1)),oP 42 (.sub none t38 (some t39) (some t41)),oP 43 (.build [.int .i64 0,.slice none 0 0,.string ⟨#[]⟩,.int .i64 0,.int .i64 0] [(0,1,t37),(2,1,t42)]),oN (.store 5 t7 t43)]) (rg 0 [oM 11 t0,oM 12 t1,oP 13 (.call 114 [t11,t12]),oN (.store 5 t7 t13)])))))))))) (.canon [(5,none,.u8,5),(7,some 1,.node,70)] [0,4,5,7] (.sub 1 zde_b1)))))))
def zde_q:IQ:=(.seq (rg 4 [oP 4 (.alloc 97 [.int .i64 0,.slice none 0 0,.string ⟨#[]⟩,.int .i64 0,.int .i64 0])]) (.seq (rg 5 [oP 5 (.mv (.v (.slice none 0 0)))]) (.block 0 (.canon [(5,none,.u8,5)] [0,1,4,5] (.sub 0 zde_b0)))))
def zde_p1 (b:List Int) (g_S:BA) (qIc:Int):Option (Unit ⊕ ((List Int))) :=
 bif (!decide (qIc=(0:Int))) then (
  some (.inl ()))
 else (
  gd (b.length+g_S.size≤140737488355328) <|
  some (.inr (b++(qB9 g_S))))
def qBx (t:BA) (at_:Int) (b:List Int):Option ((Int × (List Int)) ⊕ (Int × BA × Int × Int × (List Eng.Node))) :=
 (zcz_s t at_).bind fun r20 =>
 bif decide (r20<(32:Int)) then (
  (zdb_s (31:Int) at_).bind fun r21 =>
  some (.inr (r21.at_,r21.s,r21.code,r21.bad,r21.l)))
 else (
  bif decide (r20=(34:Int)) then (
   gd (qAf (at_+(1:Int))) <|
   some (.inr ((at_+(1:Int)),(qBe b),(0:Int),(0:Int),[])))
  else (
   bif decide (r20=(92:Int)) then (
    (zda_s t at_).bind fun r22 =>
    (zde_p1 b r22.s r22.code).bind fun o23=>(Sum.elim (fun (o23_0:Unit) =>
     some (.inr (r22.at_,r22.s,r22.code,r22.bad,r22.l))) (fun (o23_1:(List Int)) =>
     some (.inl (r22.at_,o23_1)))) o23)
   else (
    bif decide (r20<(128:Int)) then (
     gd (qAf (at_+(1:Int))) <|
     gd (qAf (at_+(1:Int))) <|
     gd (0≤at_∧at_≤(at_+(1:Int))∧(at_+(1:Int))≤t.size) <|
     (zde_p1 b (t.extract (Int.toNat at_) (Int.toNat (at_+(1:Int)))) (0:Int)).bind fun o24=>(Sum.elim (fun (o24_0:Unit) =>
      some (.inr ((at_+(1:Int)),(t.extract (Int.toNat at_) (Int.toNat (at_+(1:Int)))),(0:Int),(0:Int),[]))) (fun (o24_1:(List Int)) =>
      some (.inl ((at_+(1:Int)),o24_1)))) o24)
    else (
     (zdf_s t at_).bind fun r25 =>
     (zde_p1 b r25.s r25.code).bind fun o26=>(Sum.elim (fun (o26_0:Unit) =>
      some (.inr (r25.at_,r25.s,r25.code,r25.bad,r25.l))) (fun (o26_1:(List Int)) =>
      some (.inl (r25.at_,o26_1)))) o26))))
def zde_p0 (t:BA) (at_:Int) (b:List Int):Option (Int × BA × Int × Int × (List Eng.Node)) :=
 qAw (fun x:(Int × (List Int))=>qBx t x.1 x.2) (at_,b)
def zde_s (t:BA) (at_:Int):Option qHs :=
 (zde_p0 t at_ []).bind fun o27 =>
 some (⟨o27.1,o27.2.2.2.2,o27.2.1,o27.2.2.1,o27.2.2.2.1⟩:qHs)
def zde_G:Nat→Option CQ:=tblQ [(97,zcz_w),(98,zdb_w),(113,zda_w),(114,zdf_w)]
def zde_d1:=(dQS (qAa (dSO 0 dS) (qAa (dSO 4 (dH 0 0)) (qAa (dSO 5 (dO 1)) (qAa (dSO 7 (dH 2 0)) dNil)))) (qAa zDJQ1 (qAa (dRow .u8 5) (qAa (qEr 97 (qAa dZ (qAa (dO 3) zDJQ2))) (qAa (dRow .node 70) dNil)))))
def zde_l1:SubQ:=mkL zde_d1 (fun x=>zde_p1 x.2.2.1 x.2.2.2.1.2.2.1 x.2.2.2.1.2.2.2.1) fun x r R kn kx kr=>(Sum.elim (fun (r_0:Unit)=>kr ⟨[sL 4 (.hd 0 0)],[],[.cells 97 [.vI x.2.2.2.1.1,.own 1,.vS x.2.2.2.1.2.2.1,.vI x.2.2.2.1.2.2.2.1,.vI x.2.2.2.1.2.2.2.2.1],.row .node 70 x.2.2.2.2.1]⟩) (fun (r_1:(List Int))=>kn ⟨[sL 0 (.vS x.1.1),sL 1 (.vI x.2.2.2.1.1),sL 4 (.hd 0 0),sL 5 (.own 1)],[],[.cells 97 [.vI x.2.1.1,.val (.slice none 0 0),.vS x.2.1.2.2.1,.vI x.2.1.2.2.2.1,.vI x.2.1.2.2.2.2.1],.row .u8 5 r_1]⟩)) r
def zde_d0:=(dQS (qAa (dSO 0 dS) (qAa (dSO 1 dZ) (qAa (dSO 4 (dH 0 0)) (qAa (dSO 5 (dO 1)) dNil)))) (qAa zDJQ1 (qAa (dRow .u8 5) dNil)))
def zde_l0:SubQ:=mkL zde_d0 (fun x=>zde_p0 x.1.1 x.1.2.1 x.2.2.1) fun x r R kn kx kr=>kr ⟨[sL 4 (.hd 0 0)],[],[.cells 97 [.vI r.1,.own 1,.vS r.2.1,.vI r.2.2.1,.vI r.2.2.2.1],.row .node 70 r.2.2.2.2]⟩
def zde_L:Nat→SubQ:=tblL [(1,zde_l1),(0,zde_l0)]
theorem zde_sub1:qA0 zde_L zde_G 0 8 54 1 zde_b1:=qAp (show zde_L 1=zde_l1 from by kernel_rfl) fun x R kn kx kr=>by
 simp only [zde_p1,-eq_self,qAc,qAe,obA,obS,slL,slR,qAd];kernel_rfl
theorem zde_sub0:qA0 zde_L zde_G 0 8 54 0 zde_b0:=qAp (show zde_L 0=zde_l0 from by kernel_rfl) fun x R kn kx kr=>qAm (step:=fun y=>qBx x.1.1 y.1 y.2) (enc:=fun (y:Int × (List Int))=>zde_d0.e ((x.1.1,y.1,x.1.2.2),(x.2.1,y.2,x.2.2.2))) (fun y=>by kernel_rfl) (fun y ki=>by simp only [qBx,-eq_self,qAc,qAe,obA,obS,slL,slR,qAd]; kernel_rfl) (x.1.2.1,x.2.2.1)
def zde_c:CS:=mkC (qAa (dVC (dCO dS)) (qAa (dVC (dCO dZ)) dNil)) dNil (fun x y=>zde_s x.1 x.2.1) (fun x y r=>.c (.agg [.vI r.at_,.own 0,.vS r.s,.vI r.code,.vI r.bad])) fun x y r=>[.row .node 70 r.l]
theorem zde_val:qAj Tryz.prog 100 zde_c:=vl1 zde_q [.cell 4 (some 5)] 54 8 0 (show qAu zde_L zde_G 0 8 54 [(0,zde_b0),(1,zde_b1)] from ⟨zde_sub0,zde_sub1,tV⟩) (qAl ⟨zcz_ok,zdb_ok,zda_ok,zdf_ok,tV⟩) fun x y=>by
 simp only [zde_s,-eq_self,qAc,qAe,obA,obS,slL,slR,qAd];kernel_rfl
def zde_w:CQ:=qBs [] zde_c
theorem zde_ok:qAg Tryz.prog 100 zde_w:=qB3 zde_val
def zdh_q:IQ:=(.seq (rg 6 [oP 6 (.alloc 97 [.int .i64 0,.slice none 0 0,.string ⟨#[]⟩,.int .i64 0,.int .i64 0])]) (.seq (rg 7 [oM 9 t0,oM 10 t1,oP 11 (.call 97 [t9,t10]),oM 7 t11]) (.seq (.block 0 (.seq (rg 12 [oM 13 t7,oP 14 (.bi .eql t13 (vI 91)),oM 15 t14,oE 16 (.mv t7) 15,oE 17 (.bi .eql t16 (vI 123)) 15,oP 18 (.pick t15 vT t17),oM 12 t18]) (.cond t12 (.seq (.seq (rg 20 [oM 19 t2,oP 20 (.bi .eql t19 (vI 32))]) (.cond t20 (.seq (rg 0 [oM 21 t1,oP 22 (.call 98 [(vI 11),t21]),oN (.store 5 t6 t22)]) (.canon [(6,some 1,.node,70)] [6] .ret)) .skip)) (.seq (rg 0 [oM 23 t0,oM 24 t1,oM 25 t7,oP 26 (.bi .eql t25 (vI 123)),oM 27 t2,oP 28 (.bi .add t27 (vI 1)),oP 29 (.call 99 [t23,t24,t26,t28]),oN (.store 5 t6 t29)]) (.cn [6] .ret))) (.seq (rg 30 [oM 31 t7,oP 32 (.bi .eql t31 (vI 34)),oM 30 t32]) (.cond t30 (.seq (rg 0 [oM 33 t0,oM 34 t1,oP 35 (.bi .add t34 (vI 1)),oP 36 (.call 100 [t33,t35]),oP 8 (.alloc 97 [.int .i64 0,.slice none 0 0,.string ⟨#[]⟩,.int .i64 0,.int .i64 0]),oN (.store 5 t8 t36)]) (.seq (.seq (rg 39 [oP 37 (.faddr 3 t8),oP 38 (.load none t37),oP 39 (.bi .eql t38 (vI 0))]) (.cond t39 (rg 0 [oP 40 (.faddr 2 t8),oP 41 (.load none t40),oP 42 (.build [.int .i64 0,.string ⟨#[]⟩,.string ⟨#[]⟩,.bool false,.int .i64 0,.int .i64 0] [(0,1,(vI 5)),(2,1,t41)]),oP 43 (.bslice 70 6 1 [.int .i64 0,.string ⟨#[]⟩,.string ⟨#[]⟩,.bool false,.int .i64 0,.int .i64 0] [(0,t42)]),oP 44 (.faddr 1 t8),oN (.store 1 t44 t43)]) .skip)) (.seq (rg 0 [oP 45 (.load (some 5) t8),oN (.store 5 t6 t45)]) (.canon [(6,some 1,.node,70)] [6] .ret)))) (.seq (rg 46 [oM 47 t7,oP 48 (.bi .eql t47 (vI 45)),oM 49 t48,oE 50 (.mv t7) 49,oE 51 (.bi .geq t50 (vI 48)) 49,oE 52 (.mv t51) 49,oF 53 (.mv t7) 52,oF 54 (.bi .leq t53 (vI 57)) 52,oE 55 (.pick t52 t54 vF) 49,oP 56 (.pick t49 vT t55),oM 46 t56]) (.cond t46 (.seq (rg 0 [oM 57 t0,oM 58 t1,oP 59 (.call 101 [t57,t58]),oN (.store 5 t6 t59)]) (.cn [6] .ret)) (.seq (rg 60 [oM 61 t7,oP 62 (.bi .eql t61 (vI 110)),oM 60 t62]) (.cond t60 (.seq (rg 0 [oM 63 t0,oM 64 t1,oP 65 (.call 102 [t63,t64,(.v (.string ⟨#[110,117,108,108]⟩)),(vI 1)]),oN (.store 5 t6 t65)]) (.cn [6] .ret)) (.seq (rg 66 [oM 67 t7,oP 68 (.bi .eql t67 (vI 102)),oM 66 t68]) (.cond t66 (.seq (rg 0 [oM 69 t0,oM 70 t1,oP 71 (.call 102 [t69,t70,(.v (.string ⟨#[102,97,108,115,101]⟩)),(vI 2)]),oN (.store 5 t6 t71)]) (.cn [6] .ret)) (.seq (rg 72 [oM 73 t7,oP 74 (.bi .eql t73 (vI 116)),oM 72 t74]) (.cond t72 (.seq (rg 0 [oM 75 t0,oM 76 t1,oP 77 (.call 102 [t75,t76,(.v (.string ⟨#[116,114,117,101]⟩)),(vI 3)]),oN (.store 5 t6 t77)]) (.cn [6] .ret)) .skip))))))))))))) (.seq (rg 0 [oM 78 t1,oP 79 (.call 98 [(vI 31),t78]),oN (.store 5 t6 t79)]) (.canon [(6,some 1,.node,70)] [6] .ret)))))
def zdh_s (t:BA) (at_ open_:Int):Option qHs :=
 (zcz_s t at_).bind fun r1 =>
 bif ((decide (r1=(91:Int))) || (decide (r1=(123:Int)))) then (
  bif decide (open_=(32:Int)) then (
   (zdb_s (11:Int) at_).bind fun r2 =>
   some r2)
  else (
   gd (qAf (open_+(1:Int))) <|
   none))
 else (
  bif decide (r1=(34:Int)) then (
   gd (qAf (at_+(1:Int))) <|
   (zde_s t (at_+(1:Int))).bind fun r3 =>
   bif decide (r3.code=(0:Int)) then (
    some {r3 with l:=[(⟨(5:Int),(⟨#[]⟩:BA),r3.s,false,(0:Int),(0:Int)⟩:Eng.Node)]:qHs})
   else (
    some r3))
  else (
   bif ((decide (r1=(45:Int))) || ((decide ((48:Int)≤r1)) && (decide (r1≤(57:Int))))) then (
    none)
   else (
    bif decide (r1=(110:Int)) then (
     none)
    else (
     bif decide (r1=(102:Int)) then (
      none)
     else (
      bif decide (r1=(116:Int)) then (
       none)
      else (
       (zdb_s (31:Int) at_).bind fun r4 =>
       some r4))))))
def zdh_c:CS:=mkC (qAa (dVC (dCO dS)) (qAa (dVC (dCO dZ)) (qAa (dVC (dCO dZ)) dNil))) dNil (fun x y=>zdh_s x.1 x.2.1 x.2.2.1) (fun x y r=>.c (.agg [.vI r.at_,.own 0,.vS r.s,.vI r.code,.vI r.bad])) fun x y r=>[.row .node 70 r.l]
theorem zdh_val:qAj Tryz.prog 83 zdh_c:=vl0 zdh_q [.cell 6 (some 5)] 80 9 0 [(97,zcz_w),(98,zdb_w),(100,zde_w)] ⟨zcz_ok,zdb_ok,zde_ok,tV⟩ fun x y=>by
 simp only [zdh_s,-eq_self,qAc,qAe,obA,obS,slL,slR,qAd];kernel_rfl
def zdh_w:CQ:=qBs [] zdh_c
theorem zdh_ok:qAg Tryz.prog 83 zdh_w:=qB3 zdh_val
def zcw_q:IQ:=(.seq (rg 4 [oP 2 (.mv (.v (.slice none 0 0))),oP 3 (.mv (vI 0)),oP 4 (.mv (vI 0))]) (.seq (.seq (rg 9 [oM 7 t0,oP 8 (.lenS t7),oP 9 (.bi .gtr t8 (vI 262144))]) (.cond t9 (.seq (rg 4 [oP 2 (.mv (.v (.slice none 0 0))),oP 3 (.mv (vI 10)),oP 4 (.mv (vI 0))]) (.canon [(2,none,.node,70)] [2,3,4] .ret)) .skip)) (.seq (rg 0 [oM 10 t0,oM 11 t0,oP 12 (.call 84 [t11,(vI 0)]),oP 13 (.call 83 [t10,t12,(vI 0)]),oP 5 (.alloc 97 [.int .i64 0,.slice none 0 0,.string ⟨#[]⟩,.int .i64 0,.int .i64 0]),oN (.store 5 t5 t13)]) (.seq (.seq (rg 16 [oP 14 (.faddr 3 t5),oP 15 (.load none t14),oP 16 (.bi .neq t15 (vI 0))]) (.cond t16 (.seq (.reg 4 (some [0,1,2,3,4,5,6]) [oP 17 (.faddr 3 t5),oP 18 (.load none t17),oP 19 (.faddr 4 t5),oP 20 (.load none t19),oP 2 (.mv (.v (.slice none 0 0))),oM 3 t18,oM 4 t20]) (.canon [(2,none,.node,70)] [2,3,4] .ret)) .skip)) (.seq (rg 6 [oM 21 t0,oP 22 (.faddr 0 t5),oP 23 (.load none t22),oP 24 (.call 84 [t21,t23]),oM 6 t24]) (.seq (.seq (rg 28 [oM 25 t6,oM 26 t0,oP 27 (.lenS t26),oP 28 (.bi .lss t25 t27)]) (.cond t28 (.seq (rg 4 [oM 29 t6,oP 2 (.mv (.v (.slice none 0 0))),oP 3 (.mv (vI 31)),oM 4 t29]) (.canon [(2,none,.node,70)] [2,3,4] .ret)) .skip)) (.seq (rg 4 [oP 30 (.faddr 1 t5),oP 31 (.load none t30),oM 2 t31,oP 3 (.mv (vI 0)),oP 4 (.mv (vI 0))]) (.canon [(2,none,.node,70)] [2,3,4] .ret))))))))
def zcw_s (t:BA):Option ((List Eng.Node) × Int × Int) :=
 bif decide ((262144:Int)<(t.size:Int)) then (
  some ([],(10:Int),(0:Int)))
 else (
  (zdg_s t (0:Int)).bind fun r1 =>
  (zdh_s t r1 (0:Int)).bind fun r2 =>
  bif (!decide (r2.code=(0:Int))) then (
   some ([],r2.code,r2.bad))
  else (
   (zdg_s t r2.at_).bind fun r3 =>
   bif decide (r3<(t.size:Int)) then (
    some ([],(31:Int),r3))
   else (
    some (r2.l,(0:Int),(0:Int)))))
def zcw_c:CS:=mkC (qAa (dVC (dCO dS)) dNil) dNil (fun x y=>zcw_s x.1) (fun x y r=>.tup [.o (.own 0),.o (.vI r.2.1),.o (.vI r.2.2)]) fun x y r=>[.row .node 70 r.1]
theorem zcw_val:qAj Tryz.prog 65 zcw_c:=vl0 zcw_q [.tmp 2,.tmp 3,.tmp 4] 32 7 0 [(84,zdg_w),(83,zdh_w)] ⟨zdg_ok,zdh_ok,tV⟩ fun x y=>by
 simp only [zcw_s,-eq_self,qAc,qAe,obA,obS,slL,slR,qAd];kernel_rfl
def zcw_w:CQ:=qBs [] zcw_c
theorem zcw_ok:qAg Tryz.prog 65 zcw_w:=qB3 zcw_val
end
end Go.Proofs.YtpobbbpphnnnhaaGreatDoor
