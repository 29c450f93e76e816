/-
  Functions as the engine reads them (printed by gen.py).
-/
import Derived.Test.YtnifdcmeffnpaaaGreatDoorEngO
import Derived.Test.YtnifdcmeffnpaaaGreatDoorProg
import Derived.Test.YtnifdcmeffnpaaaGreatDoorGC
import Derived.Test.YtnifdcmeffnpaaaGreatDoorJS
namespace Go.Proofs.YtnifdcmeffnpaaaGreatDoor
open Go.Eng
set_option linter.unusedVariables false
set_option linter.unusedSimpArgs false
set_option maxRecDepth 100000
noncomputable section
structure qG0 where
 at_:Int
 l:(List Eng.Node)
 s:BA
 code:Int
 bad:Int
def zcs_b0:IQ:=(.loop [0,1] (.seq (.seq (rg 32 [oM 5 t1,oM 6 t0,oP 7 (.lenS t6),oP 8 (.bi .lss t5 t7),oM 9 t8,oF 10 (.mv t0) 9,oF 11 (.mv t1) 9,oF 12 (.index t10 t11) 9,oF 13 (.bi .eql t12 (vC 32)) 9,oF 14 (.mv t13) 9,oE 15 (.mv t0) 14,oE 16 (.mv t1) 14,oE 17 (.index t15 t16) 14,oE 18 (.bi .eql t17 (vC 9)) 14,oF 19 (.pick t14 vT t18) 9,oF 20 (.mv t19) 9,oE 21 (.mv t0) 20,oE 22 (.mv t1) 20,oE 23 (.index t21 t22) 20,oE 24 (.bi .eql t23 (vC 10)) 20,oF 25 (.pick t20 vT t24) 9,oF 26 (.mv t25) 9,oE 27 (.mv t0) 26,oE 28 (.mv t1) 26,oE 29 (.index t27 t28) 26,oE 30 (.bi .eql t29 (vC 13)) 26,oF 31 (.pick t26 vT t30) 9,oP 32 (.pick t9 t31 vF)]) (.cond t32 .skip (.cn [1] (.exit 0)))) (.block 1 (rg 1 [oM 33 t1,oP 34 (.bi .add t33 (vI 1)),oM 1 t34]))))
def zcs_q:IQ:=(.seq (rg 4 [oP 4 (.mv (vI 0))]) (.seq (.block 0 (.cn [0,1] (.sub 0 zcs_b0))) (.seq (rg 4 [oM 35 t1,oM 4 t35]) (.cn [4] .ret))))
theorem zcs_chk:chk Tryz.prog 24 []=some (zcs_q.erase,[.tmp 4],36):=by kernel_rfl
def qFh (t:BA) (at_:Int):Option (Int ⊕ Int) :=
 gd ((decide (at_<(t.size:Int)))=true→0≤at_∧at_<t.size) <|
 gd ((decide ((bAt t at_)=(32:Int)))=false→(decide (at_<(t.size:Int)))=true→0≤at_∧at_<t.size) <|
 gd (((decide ((bAt t at_)=(32:Int))) || (decide ((bAt t at_)=(9:Int))))=false→(decide (at_<(t.size:Int)))=true→0≤at_∧at_<t.size) <|
 gd ((((decide ((bAt t at_)=(32:Int))) || (decide ((bAt t at_)=(9:Int)))) || (decide ((bAt t at_)=(10:Int))))=false→(decide (at_<(t.size:Int)))=true→0≤at_∧at_<t.size) <|
 bif ((decide (at_<(t.size:Int))) && ((((decide ((bAt t at_)=(32:Int))) || (decide ((bAt t at_)=(9:Int)))) || (decide ((bAt t at_)=(10:Int)))) || (decide ((bAt t at_)=(13:Int))))) then (
  gd (qAe (at_+(1:Int))) <|
  some (.inl (at_+(1:Int))))
 else (
  some (.inr at_))
def zcs_p0 (t:BA) (at_:Int):Option Int :=
 qA0 (fun x:Int=>qFh t x) at_
def zcs_s (t:BA) (at_:Int):Option Int :=
 (zcs_p0 t at_).bind fun o1 =>
 some o1
def zcs_G:Nat→Option CQ:=tblQ []
theorem zcs_Gok:∀f C,zcs_G f=some C→qAg Tryz.prog f C:=fun f C h=>by cases h
def zcs_d0:=(dQS (qAb (dSO 0 dS) (qAb (dSO 1 dZ) dNil)) dNil)
def zcs_l0:SubQ:=mkL zcs_d0 (fun x=>zcs_p0 x.1.1 x.1.2.1) fun x r R kn kx kr=>kx 0 ⟨[sL 1 (.vI r)],[],[]⟩
def zcs_L:Nat→SubQ:=tblL [(0,zcs_l0)]
theorem zcs_sub0:qA4 zcs_L zcs_G 0 5 36 0 zcs_b0:=qAr (show zcs_L 0=zcs_l0 from by kernel_rfl) fun x R kn kx kr=>qAo (step:=fun y=>qFh x.1.1 y) (enc:=fun (y:Int)=>zcs_d0.e ((x.1.1,y,x.1.2.2),x.2)) (fun y=>by kernel_rfl) (fun y ki=>by simp only [qFh,-eq_self,qAd,qAf,obA,obS,slL,slR,qAc]; kernel_rfl) x.1.2.1
theorem zcs_subs:qAn zcs_L zcs_G 0 5 36 zcs_q:=qAk (show qAq zcs_L zcs_G 0 5 36 [(0,zcs_b0)] from ⟨zcs_sub0,tV⟩)
def zcs_da:=(qAb (dVC (dCO dS)) (qAb (dVC (dCO dZ)) dNil))
def zcs_db:=(dNil:Dec Unit (List SB))
def zcs_c:CS:=mkC zcs_da zcs_db (fun x y=>zcs_s x.1 x.2.1) (fun x y r=>.c (.o (.vI r))) fun x y r=>[]
theorem zcs_val:qAl Tryz.prog 24 zcs_c:=qAm zcs_chk 5 zcs_Gok 0 (fun x=>Nat.le_of_ble_eq_true rfl) (fun y=>rfl) zcs_subs fun x y=>by
 simp only [zcs_s,-eq_self,qAd,qAf,obA,obS,slL,slR,qAc];kernel_rfl
def zcs_w:CQ:=qCj [] zcs_c
theorem zcs_ok:qAg Tryz.prog 24 zcs_w:=qAx zcs_val
def zcg_q:IQ:=(.seq (rg 4 [oP 4 (.mv (vI 0))]) (.seq (.seq (rg 8 [oM 5 t1,oM 6 t0,oP 7 (.lenS t6),oP 8 (.bi .geq t5 t7)]) (.cond t8 (.seq (rg 4 [oP 4 (.mv (.v (.int .i64 (-1))))]) (.cn [4] .ret)) .skip)) (.seq (rg 4 [oM 9 t0,oM 10 t1,oP 11 (.index t9 t10),oP 12 (.conv false .i64 t11),oM 4 t12]) (.cn [4] .ret))))
theorem zcg_chk:chk Tryz.prog 39 []=some (zcg_q.erase,[.tmp 4],13):=by kernel_rfl
def qDi (t:BA) (at_:Int):Option Int :=
 bif decide ((t.size:Int)≤at_) then (
  some (-1:Int))
 else (
  gd (0≤at_∧at_<t.size) <|
  gd (qAe (bAt t at_)) <|
  some (bAt t at_))
def zcg_G:Nat→Option CQ:=tblQ []
theorem zcg_Gok:∀f C,zcg_G f=some C→qAg Tryz.prog f C:=fun f C h=>by cases h
def zcg_L:Nat→SubQ:=tblL []
theorem zcg_subs:qAn zcg_L zcg_G 0 5 13 zcg_q:=qAk (show qAq zcg_L zcg_G 0 5 13 [] from tV)
def zcg_da:=(qAb (dVC (dCO dS)) (qAb (dVC (dCO dZ)) dNil))
def zcg_db:=(dNil:Dec Unit (List SB))
def zcg_c:CS:=mkC zcg_da zcg_db (fun x y=>qDi x.1 x.2.1) (fun x y r=>.c (.o (.vI r))) fun x y r=>[]
theorem zcg_val:qAl Tryz.prog 39 zcg_c:=qAm zcg_chk 5 zcg_Gok 0 (fun x=>Nat.le_of_ble_eq_true rfl) (fun y=>rfl) zcg_subs fun x y=>by
 simp only [qDi,-eq_self,qAd,qAf,obA,obS,slL,slR,qAc];kernel_rfl
def zcg_w:CQ:=qCj [] zcg_c
theorem zcg_ok:qAg Tryz.prog 39 zcg_w:=qAx zcg_val
def zcj_q:IQ:=(.seq (rg 4 [oP 4 (.alloc 60 [.int .i64 0,.slice none 0 0,.string ⟨#[]⟩,.int .i64 0,.int .i64 0])]) (.seq (rg 0 [oM 5 t0,oM 6 t1,oP 7 (.build [.int .i64 0,.slice none 0 0,.string ⟨#[]⟩,.int .i64 0,.int .i64 0] [(3,1,t5),(4,1,t6)]),oN (.store 5 t4 t7)]) (.canon [(4,some 1,.node,34)] [4] .ret)))
theorem zcj_chk:chk Tryz.prog 40 []=some (zcj_q.erase,[.cell 4 (some 5)],8):=by kernel_rfl
def qEh (e at_:Int):Option qG0 :=
 some (⟨(0:Int),[],(⟨#[]⟩:BA),e,at_⟩:qG0)
def zcj_G:Nat→Option CQ:=tblQ []
theorem zcj_Gok:∀f C,zcj_G f=some C→qAg Tryz.prog f C:=fun f C h=>by cases h
def zcj_L:Nat→SubQ:=tblL []
theorem zcj_subs:qAn zcj_L zcj_G 0 5 8 zcj_q:=qAk (show qAq zcj_L zcj_G 0 5 8 [] from tV)
def zcj_da:=(qAb (dVC (dCO dZ)) (qAb (dVC (dCO dZ)) dNil))
def zcj_db:=(dNil:Dec Unit (List SB))
def zcj_c:CS:=mkC zcj_da zcj_db (fun x y=>qEh x.1 x.2.1) (fun x y r=>.c (.agg [.vI r.at_,.own 0,.vS r.s,.vI r.code,.vI r.bad])) fun x y r=>[.row .node 34 r.l]
theorem zcj_val:qAl Tryz.prog 40 zcj_c:=qAm zcj_chk 5 zcj_Gok 0 (fun x=>Nat.le_of_ble_eq_true rfl) (fun y=>rfl) zcj_subs fun x y=>by
 simp only [qEh,-eq_self,qAd,qAf,obA,obS,slL,slR,qAc];kernel_rfl
def zcj_w:CQ:=qBr [] zcj_c
theorem zcj_ok:qAg Tryz.prog 40 zcj_w:=qBc zcj_val
def zcl_q:IQ:=(.seq (rg 2 [oP 2 (.mv (vI 0))]) (.seq (.block 0 (.seq (rg 3 [oM 4 t0,oP 5 (.bi .geq t4 (vI 48)),oM 6 t5,oF 7 (.mv t0) 6,oF 8 (.bi .leq t7 (vI 57)) 6,oP 9 (.pick t6 t8 vF),oM 3 t9]) (.cond t3 (.seq (rg 2 [oM 10 t0,oP 11 (.bi .sub t10 (vI 48)),oM 2 t11]) (.cn [2] .ret)) (.seq (rg 12 [oM 13 t0,oP 14 (.bi .geq t13 (vI 97)),oM 15 t14,oF 16 (.mv t0) 15,oF 17 (.bi .leq t16 (vI 102)) 15,oP 18 (.pick t15 t17 vF),oM 12 t18]) (.cond t12 (.seq (rg 2 [oM 19 t0,oP 20 (.bi .sub t19 (vI 97)),oP 21 (.bi .add t20 (vI 10)),oM 2 t21]) (.cn [2] .ret)) (.seq (rg 22 [oM 23 t0,oP 24 (.bi .geq t23 (vI 65)),oM 25 t24,oF 26 (.mv t0) 25,oF 27 (.bi .leq t26 (vI 70)) 25,oP 28 (.pick t25 t27 vF),oM 22 t28]) (.cond t22 (.seq (rg 2 [oM 29 t0,oP 30 (.bi .sub t29 (vI 65)),oP 31 (.bi .add t30 (vI 10)),oM 2 t31]) (.cn [2] .ret)) .skip))))))) (.seq (rg 2 [oP 2 (.mv (.v (.int .i64 (-1))))]) (.cn [2] .ret))))
theorem zcl_chk:chk Tryz.prog 74 []=some (zcl_q.erase,[.tmp 2],32):=by kernel_rfl
def zcl_s (c:Int):Option Int :=
 bif ((decide ((48:Int)≤c)) && (decide (c≤(57:Int)))) then (
  gd (qAe (c - (48:Int))) <|
  some (c - (48:Int)))
 else (
  bif ((decide ((97:Int)≤c)) && (decide (c≤(102:Int)))) then (
   gd (qAe (c - (97:Int))) <|
   gd (qAe ((c - (97:Int))+(10:Int))) <|
   some ((c - (97:Int))+(10:Int)))
  else (
   bif ((decide ((65:Int)≤c)) && (decide (c≤(70:Int)))) then (
    gd (qAe (c - (65:Int))) <|
    gd (qAe ((c - (65:Int))+(10:Int))) <|
    some ((c - (65:Int))+(10:Int)))
   else (
    some (-1:Int))))
def zcl_G:Nat→Option CQ:=tblQ []
theorem zcl_Gok:∀f C,zcl_G f=some C→qAg Tryz.prog f C:=fun f C h=>by cases h
def zcl_L:Nat→SubQ:=tblL []
theorem zcl_subs:qAn zcl_L zcl_G 0 3 32 zcl_q:=qAk (show qAq zcl_L zcl_G 0 3 32 [] from tV)
def zcl_da:=(qAb (dVC (dCO dZ)) dNil)
def zcl_db:=(dNil:Dec Unit (List SB))
def zcl_c:CS:=mkC zcl_da zcl_db (fun x y=>zcl_s x.1) (fun x y r=>.c (.o (.vI r))) fun x y r=>[]
theorem zcl_val:qAl Tryz.prog 74 zcl_c:=qAm zcl_chk 3 zcl_Gok 0 (fun x=>Nat.le_of_ble_eq_true rfl) (fun y=>rfl) zcl_subs fun x y=>by
 simp only [zcl_s,-eq_self,qAd,qAf,obA,obS,slL,slR,qAc];kernel_rfl
def zcl_w:CQ:=qCj [] zcl_c
theorem zcl_ok:qAg Tryz.prog 74 zcl_w:=qAx zcl_val
def zck_b2:IQ:=(.join [] [0,1,2,3,9,10,11] (.seq (.seq (rg 65 [oM 65 t14]) (.cond t65 (.seq (rg 0 [oM 66 t3,oP 67 (.call 40 [(vI 33),t66]),oP 8 (.mv (vI 0)),oN (.store 5 t9 t67)]) (.canon [(9,some 1,.node,34)] [8,9] .ret)) .skip)) (rg 10 [oM 68 t10,oP 69 (.bi .mul (vI 16) t68),oM 70 t13,oP 71 (.bi .add t69 t70),oM 10 t71])))
def zck_b1:IQ:=(.join [] [0,1,2,3,9,10,11] (.seq (.seq (rg 64 [oM 51 t2,oP 52 (.bi .eql t51 (vI 0)),oM 53 t52,oF 54 (.mv t11) 53,oF 55 (.bi .eql t54 (vI 1)) 53,oP 56 (.pick t53 t55 vF),oM 57 t56,oF 58 (.mv t10) 57,oF 59 (.bi .eql t58 (vI 13)) 57,oP 60 (.pick t57 t59 vF),oM 61 t60,oF 62 (.mv t13) 61,oF 63 (.bi .geq t62 (vI 12)) 61,oP 64 (.pick t61 t63 vF)]) (.cond t64 (rg 14 [oP 14 (.mv vT)]) .skip)) (.cn [0,1,2,3,9,10,11,13,14] (.sub 2 zck_b2))))
def zck_b0:IQ:=(.loop [0,1,2,3,9,10,11] (.seq (.seq (rg 16 [oM 15 t11,oP 16 (.bi .lss t15 (vI 4))]) (.cond t16 .skip (.cn [1,9,10] (.exit 0)))) (.seq (.block 1 (.seq (rg 12 [oM 19 t0,oM 20 t1,oM 21 t11,oP 22 (.bi .add t20 t21),oP 23 (.call 39 [t19,t22]),oM 12 t23]) (.seq (.seq (rg 25 [oM 24 t12,oP 25 (.bi .lss t24 (vI 0))]) (.cond t25 (.seq (rg 0 [oM 26 t0,oP 27 (.lenS t26),oP 28 (.call 40 [(vI 31),t27]),oP 8 (.mv (vI 0)),oN (.store 5 t9 t28)]) (.canon [(9,some 1,.node,34)] [8,9] .ret)) .skip)) (.seq (rg 13 [oM 29 t12,oP 30 (.call 74 [t29]),oM 13 t30]) (.seq (rg 14 [oM 31 t13,oP 32 (.bi .lss t31 (vI 0)),oM 14 t32]) (.seq (.seq (rg 50 [oM 33 t2,oP 34 (.bi .eql t33 (vI 2)),oM 35 t34,oF 36 (.mv t11) 35,oF 37 (.bi .eql t36 (vI 0)) 35,oF 38 (.mv t37) 35,oF 39 (.mv t13) 38,oF 40 (.bi .neq t39 (vI 13)) 38,oF 41 (.pick t38 t40 vF) 35,oF 42 (.mv t41) 35,oE 43 (.mv t11) 42,oE 44 (.bi .eql t43 (vI 1)) 42,oE 45 (.mv t44) 42,oF 46 (.mv t13) 45,oF 47 (.bi .lss t46 (vI 12)) 45,oE 48 (.pick t45 t47 vF) 42,oF 49 (.pick t42 vT t48) 35,oP 50 (.pick t35 t49 vF)]) (.cond t50 (rg 14 [oP 14 (.mv vT)]) .skip)) (.cn [0,1,2,3,9,10,11,13,14] (.sub 1 zck_b1)))))))) (rg 11 [oM 17 t11,oP 18 (.bi .add t17 (vI 1)),oM 11 t18]))))
def zck_q:IQ:=(.seq (rg 9 [oP 8 (.mv (vI 0)),oP 9 (.alloc 60 [.int .i64 0,.slice none 0 0,.string ⟨#[]⟩,.int .i64 0,.int .i64 0])]) (.seq (rg 10 [oP 10 (.mv (vI 0))]) (.seq (.seq (rg 11 [oP 11 (.mv (vI 0))]) (.block 0 (.cn [0,1,2,3,9,10,11] (.sub 0 zck_b0)))) (.seq (rg 0 [oM 72 t10,oM 73 t1,oP 74 (.bi .add t73 (vI 4)),oP 75 (.build [.int .i64 0,.slice none 0 0,.string ⟨#[]⟩,.int .i64 0,.int .i64 0] [(0,1,t74)]),oM 8 t72,oN (.store 5 t9 t75)]) (.canon [(9,some 1,.node,34)] [8,9] .ret)))))
theorem zck_chk:chk Tryz.prog 65 []=some (zck_q.erase,[.tmp 8,.cell 9 (some 5)],76):=by kernel_rfl
def zck_p2 (from_ u d:Int) (bad:Bool):Option ((Int × Int × BA × Int × Int × (List Eng.Node)) ⊕ Int) :=
 bif bad then (
  (qEh (33:Int) from_).bind fun r18 =>
  some (.inl ((0:Int),r18.at_,r18.s,r18.code,r18.bad,r18.l)))
 else (
  gd (qAe ((16:Int)*u)) <|
  gd (qAe (((16:Int)*u)+d)) <|
  some (.inr (((16:Int)*u)+d)))
def zck_p1 (half from_ u i d:Int) (bad:Bool):Option ((Int × Int × BA × Int × Int × (List Eng.Node)) ⊕ Int) :=
 bif ((((decide (half=(0:Int))) && (decide (i=(1:Int)))) && (decide (u=(13:Int)))) && (decide ((12:Int)≤d))) then (
  (zck_p2 from_ u d true).bind fun o19=>(Sum.elim (fun (o19_0:Int × Int × BA × Int × Int × (List Eng.Node)) =>
   some (.inl (o19_0.1,o19_0.2.1,o19_0.2.2.1,o19_0.2.2.2.1,o19_0.2.2.2.2.1,o19_0.2.2.2.2.2))) (fun (o19_1:Int) =>
   some (.inr o19_1))) o19)
 else (
  (zck_p2 from_ u d bad).bind fun o20=>(Sum.elim (fun (o20_0:Int × Int × BA × Int × Int × (List Eng.Node)) =>
   some (.inl (o20_0.1,o20_0.2.1,o20_0.2.2.1,o20_0.2.2.2.1,o20_0.2.2.2.2.1,o20_0.2.2.2.2.2))) (fun (o20_1:Int) =>
   some (.inr o20_1))) o20)
def qD7 (t:BA) (at_ half from_ u i:Int):Option ((Int × Int) ⊕ ((Int × Int × BA × Int × Int × (List Eng.Node)) ⊕ Int)) :=
 bif decide (i<(4:Int)) then (
  gd (qAe (at_+i)) <|
  (qDi t (at_+i)).bind fun r15 =>
  bif decide (r15<(0:Int)) then (
   (qEh (31:Int) (t.size:Int)).bind fun r16 =>
   some (.inr (.inl ((0:Int),r16.at_,r16.s,r16.code,r16.bad,r16.l))))
  else (
   (zcl_s r15).bind fun r17 =>
   bif ((decide (half=(2:Int))) && (((decide (i=(0:Int))) && (!decide (r17=(13:Int)))) || ((decide (i=(1:Int))) && (decide (r17<(12:Int)))))) then (
    (zck_p1 half from_ u i r17 true).bind fun o21=>(Sum.elim (fun (o21_0:Int × Int × BA × Int × Int × (List Eng.Node)) =>
     some (.inr (.inl (o21_0.1,o21_0.2.1,o21_0.2.2.1,o21_0.2.2.2.1,o21_0.2.2.2.2.1,o21_0.2.2.2.2.2)))) (fun (o21_1:Int) =>
     gd (qAe (i+(1:Int))) <|
     some (.inl (o21_1,(i+(1:Int)))))) o21)
   else (
    (zck_p1 half from_ u i r17 (decide (r17<(0:Int)))).bind fun o22=>(Sum.elim (fun (o22_0:Int × Int × BA × Int × Int × (List Eng.Node)) =>
     some (.inr (.inl (o22_0.1,o22_0.2.1,o22_0.2.2.1,o22_0.2.2.2.1,o22_0.2.2.2.2.1,o22_0.2.2.2.2.2)))) (fun (o22_1:Int) =>
     gd (qAe (i+(1:Int))) <|
     some (.inl (o22_1,(i+(1:Int)))))) o22)))
 else (
  some (.inr (.inr u)))
def zck_p0 (t:BA) (at_ half from_ u i:Int):Option ((Int × Int × BA × Int × Int × (List Eng.Node)) ⊕ Int) :=
 qA0 (fun x:(Int × Int)=>qD7 t at_ half from_ x.1 x.2) (u,i)
def zck_s (t:BA) (at_ half from_:Int):Option (Int × qG0) :=
 (zck_p0 t at_ half from_ (0:Int) (0:Int)).bind fun o23=>(Sum.elim (fun (o23_0:Int × Int × BA × Int × Int × (List Eng.Node)) =>
  some (o23_0.1,(⟨o23_0.2.1,o23_0.2.2.2.2.2,o23_0.2.2.1,o23_0.2.2.2.1,o23_0.2.2.2.2.1⟩:qG0))) (fun (o23_1:Int) =>
  gd (qAe (at_+(4:Int))) <|
  some (o23_1,(⟨(at_+(4:Int)),[],(⟨#[]⟩:BA),(0:Int),(0:Int)⟩:qG0)))) o23
def zck_G:Nat→Option CQ:=tblQ [(39,zcg_w),(40,zcj_w),(74,zcl_w)]
theorem zck_Gok:∀f C,zck_G f=some C→qAg Tryz.prog f C:=qAj ⟨zcg_ok,zcj_ok,zcl_ok,tV⟩
def zDJQ3:=(qAb dS (qAb dZ (qAb dZ dNil)))
def zDJQ1:=(qGy 60 (qAb dZ (qAb dNS zDJQ3)))
def zck_d2:=(dQS (qAb (dSO 0 dS) (qAb (dSO 1 dZ) (qAb (dSO 2 dZ) (qAb (dSO 3 dZ) (qAb (dSO 9 (dH 0 0)) (qAb (dSO 10 dZ) (qAb (dSO 11 dZ) (qAb (dSO 13 dZ) (qAb (dSO 14 dB) dNil))))))))) (qAb zDJQ1 dNil))
def zck_l2:SubQ:=mkL zck_d2 (fun x=>zck_p2 x.1.2.2.2.1 x.1.2.2.2.2.2.1 x.1.2.2.2.2.2.2.2.1 x.1.2.2.2.2.2.2.2.2.1) fun x r R kn kx kr=>(Sum.elim (fun (r_0:Int × Int × BA × Int × Int × (List Eng.Node))=>kr ⟨[sL 8 (.vI r_0.1),sL 9 (.hd 0 0)],[],[.cells 60 [.vI r_0.2.1,.own 1,.vS r_0.2.2.1,.vI r_0.2.2.2.1,.vI r_0.2.2.2.2.1],.row .node 34 r_0.2.2.2.2.2]⟩) (fun (r_1:Int)=>kn ⟨[sL 0 (.vS x.1.1),sL 1 (.vI x.1.2.1),sL 2 (.vI x.1.2.2.1),sL 3 (.vI x.1.2.2.2.1),sL 9 (.hd 0 0),sL 10 (.vI r_1),sL 11 (.vI x.1.2.2.2.2.2.2.1)],[],[.cells 60 [.vI x.2.1.1,.val (.slice none 0 0),.vS x.2.1.2.2.1,.vI x.2.1.2.2.2.1,.vI x.2.1.2.2.2.2.1]]⟩)) r
def zck_d1:=(dQS (qAb (dSO 0 dS) (qAb (dSO 1 dZ) (qAb (dSO 2 dZ) (qAb (dSO 3 dZ) (qAb (dSO 9 (dH 0 0)) (qAb (dSO 10 dZ) (qAb (dSO 11 dZ) (qAb (dSO 13 dZ) (qAb (dSO 14 dB) dNil))))))))) (qAb zDJQ1 dNil))
def zck_l1:SubQ:=mkL zck_d1 (fun x=>zck_p1 x.1.2.2.1 x.1.2.2.2.1 x.1.2.2.2.2.2.1 x.1.2.2.2.2.2.2.1 x.1.2.2.2.2.2.2.2.1 x.1.2.2.2.2.2.2.2.2.1) fun x r R kn kx kr=>(Sum.elim (fun (r_0:Int × Int × BA × Int × Int × (List Eng.Node))=>kr ⟨[sL 8 (.vI r_0.1),sL 9 (.hd 0 0)],[],[.cells 60 [.vI r_0.2.1,.own 1,.vS r_0.2.2.1,.vI r_0.2.2.2.1,.vI r_0.2.2.2.2.1],.row .node 34 r_0.2.2.2.2.2]⟩) (fun (r_1:Int)=>kn ⟨[sL 0 (.vS x.1.1),sL 1 (.vI x.1.2.1),sL 2 (.vI x.1.2.2.1),sL 3 (.vI x.1.2.2.2.1),sL 9 (.hd 0 0),sL 10 (.vI r_1),sL 11 (.vI x.1.2.2.2.2.2.2.1)],[],[.cells 60 [.vI x.2.1.1,.val (.slice none 0 0),.vS x.2.1.2.2.1,.vI x.2.1.2.2.2.1,.vI x.2.1.2.2.2.2.1]]⟩)) r
def zck_d0:=(dQS (qAb (dSO 0 dS) (qAb (dSO 1 dZ) (qAb (dSO 2 dZ) (qAb (dSO 3 dZ) (qAb (dSO 9 (dH 0 0)) (qAb (dSO 10 dZ) (qAb (dSO 11 dZ) dNil))))))) (qAb zDJQ1 dNil))
def zck_l0:SubQ:=mkL zck_d0 (fun x=>zck_p0 x.1.1 x.1.2.1 x.1.2.2.1 x.1.2.2.2.1 x.1.2.2.2.2.2.1 x.1.2.2.2.2.2.2.1) fun x r R kn kx kr=>(Sum.elim (fun (r_0:Int × Int × BA × Int × Int × (List Eng.Node))=>kr ⟨[sL 8 (.vI r_0.1),sL 9 (.hd 0 0)],[],[.cells 60 [.vI r_0.2.1,.own 1,.vS r_0.2.2.1,.vI r_0.2.2.2.1,.vI r_0.2.2.2.2.1],.row .node 34 r_0.2.2.2.2.2]⟩) (fun (r_1:Int)=>kx 0 ⟨[sL 1 (.vI x.1.2.1),sL 9 (.hd 0 0),sL 10 (.vI r_1)],[],[.cells 60 [.vI x.2.1.1,.val (.slice none 0 0),.vS x.2.1.2.2.1,.vI x.2.1.2.2.2.1,.vI x.2.1.2.2.2.2.1]]⟩)) r
def zck_L:Nat→SubQ:=tblL [(2,zck_l2),(1,zck_l1),(0,zck_l0)]
theorem zck_sub2:qA4 zck_L zck_G 0 15 76 2 zck_b2:=qAr (show zck_L 2=zck_l2 from by kernel_rfl) fun x R kn kx kr=>by
 simp only [zck_p2,-eq_self,qAd,qAf,obA,obS,slL,slR,qAc];kernel_rfl
theorem zck_sub1:qA4 zck_L zck_G 0 15 76 1 zck_b1:=qAr (show zck_L 1=zck_l1 from by kernel_rfl) fun x R kn kx kr=>by
 simp only [zck_p1,-eq_self,qAd,qAf,obA,obS,slL,slR,qAc];kernel_rfl
theorem zck_sub0:qA4 zck_L zck_G 0 15 76 0 zck_b0:=qAr (show zck_L 0=zck_l0 from by kernel_rfl) fun x R kn kx kr=>qAo (step:=fun y=>qD7 x.1.1 x.1.2.1 x.1.2.2.1 x.1.2.2.2.1 y.1 y.2) (enc:=fun (y:Int × Int)=>zck_d0.e ((x.1.1,x.1.2.1,x.1.2.2.1,x.1.2.2.2.1,x.1.2.2.2.2.1,y.1,y.2,x.1.2.2.2.2.2.2.2),x.2)) (fun y=>by kernel_rfl) (fun y ki=>by simp only [qD7,-eq_self,qAd,qAf,obA,obS,slL,slR,qAc]; kernel_rfl) (x.1.2.2.2.2.2.1,x.1.2.2.2.2.2.2.1)
theorem zck_subs:qAn zck_L zck_G 0 15 76 zck_q:=qAk (show qAq zck_L zck_G 0 15 76 [(0,zck_b0),(1,zck_b1),(2,zck_b2)] from ⟨zck_sub0,zck_sub1,zck_sub2,tV⟩)
def zck_da:=(qAb (dVC (dCO dS)) (qAb (dVC (dCO dZ)) (qAb (dVC (dCO dZ)) (qAb (dVC (dCO dZ)) dNil))))
def zck_db:=(dNil:Dec Unit (List SB))
def zck_c:CS:=mkC zck_da zck_db (fun x y=>zck_s x.1 x.2.1 x.2.2.1 x.2.2.2.1) (fun x y r=>.tup [.o (.vI r.1),.agg [.vI r.2.at_,.own 0,.vS r.2.s,.vI r.2.code,.vI r.2.bad]]) fun x y r=>[.row .node 34 r.2.l]
theorem zck_val:qAl Tryz.prog 65 zck_c:=qAm zck_chk 15 zck_Gok 0 (fun x=>Nat.le_of_ble_eq_true rfl) (fun y=>rfl) zck_subs fun x y=>by
 simp only [zck_s,-eq_self,qAd,qAf,obA,obS,slL,slR,qAc];kernel_rfl
def zck_w:CQ:=qBr [] zck_c
theorem zck_ok:qAg Tryz.prog 65 zck_w:=qBc zck_val
def zcd_q:IQ:=(.seq (rg 2 [oP 2 (.mv (.v (.string ⟨#[]⟩)))]) (.seq (.block 0 (.seq (rg 3 [oM 4 t0,oP 5 (.bi .lss t4 (vI 128)),oM 3 t5]) (.cond t3 (.seq (rg 2 [oM 6 t0,oP 7 (.conv false .u8 t6),oP 8 (.bslice 5 1 1 [.int .u8 0] [(0,t7)]),oP 9 (.ext .toStr [t8]),oM 2 t9]) (.cn [2] .ret)) (.seq (rg 10 [oM 11 t0,oP 12 (.bi .lss t11 (vI 2048)),oM 10 t12]) (.cond t10 (.seq (rg 2 [oM 13 t0,oP 14 (.bi .quo t13 (vI 64)),oP 15 (.bi .add (vI 192) t14),oP 16 (.conv false .u8 t15),oM 17 t0,oP 18 (.bi .rem t17 (vI 64)),oP 19 (.bi .add (vI 128) t18),oP 20 (.conv false .u8 t19),oP 21 (.bslice 5 1 2 [.int .u8 0] [(0,t16),(1,t20)]),oP 22 (.ext .toStr [t21]),oM 2 t22]) (.cn [2] .ret)) (.seq (rg 23 [oM 24 t0,oP 25 (.bi .lss t24 (vI 65536)),oM 23 t25]) (.cond t23 (.seq (rg 2 [oM 26 t0,oP 27 (.bi .quo t26 (vI 4096)),oP 28 (.bi .add (vI 224) t27),oP 29 (.conv false .u8 t28),oM 30 t0,oP 31 (.bi .quo t30 (vI 64)),oP 32 (.bi .rem t31 (vI 64)),oP 33 (.bi .add (vI 128) t32),oP 34 (.conv false .u8 t33),oM 35 t0,oP 36 (.bi .rem t35 (vI 64)),oP 37 (.bi .add (vI 128) t36),oP 38 (.conv false .u8 t37),oP 39 (.bslice 5 1 3 [.int .u8 0] [(0,t29),(1,t34),(2,t38)]),oP 40 (.ext .toStr [t39]),oM 2 t40]) (.cn [2] .ret)) .skip))))))) (.seq (rg 2 [oM 41 t0,oP 42 (.bi .quo t41 (vI 262144)),oP 43 (.bi .add (vI 240) t42),oP 44 (.conv false .u8 t43),oM 45 t0,oP 46 (.bi .quo t45 (vI 4096)),oP 47 (.bi .rem t46 (vI 64)),oP 48 (.bi .add (vI 128) t47),oP 49 (.conv false .u8 t48),oM 50 t0,oP 51 (.bi .quo t50 (vI 64)),oP 52 (.bi .rem t51 (vI 64)),oP 53 (.bi .add (vI 128) t52),oP 54 (.conv false .u8 t53),oM 55 t0,oP 56 (.bi .rem t55 (vI 64)),oP 57 (.bi .add (vI 128) t56),oP 58 (.conv false .u8 t57),oP 59 (.bslice 5 1 4 [.int .u8 0] [(0,t44),(1,t49),(2,t54),(3,t58)]),oP 60 (.ext .toStr [t59]),oM 2 t60]) (.cn [2] .ret))))
theorem zcd_chk:chk Tryz.prog 66 []=some (zcd_q.erase,[.tmp 2],61):=by kernel_rfl
def zcd_s (u:Int):Option BA :=
 bif decide (u<(128:Int)) then (
  some (qAw [(u % 256)]))
 else (
  bif decide (u<(2048:Int)) then (
   gd (0≤u∧u≤9223372036854775807∧1≤(64:Int)) <|
   gd (qAe ((192:Int)+(u / (64:Int)))) <|
   gd (0≤u∧1≤(64:Int)) <|
   gd (qAe ((128:Int)+(u % (64:Int)))) <|
   some (qAw [(((192:Int)+(u / (64:Int))) % 256),(((128:Int)+(u % (64:Int))) % 256)]))
  else (
   bif decide (u<(65536:Int)) then (
    gd (0≤u∧u≤9223372036854775807∧1≤(4096:Int)) <|
    gd (qAe ((224:Int)+(u / (4096:Int)))) <|
    gd (0≤u∧u≤9223372036854775807∧1≤(64:Int)) <|
    gd (0≤(u / (64:Int))∧1≤(64:Int)) <|
    gd (qAe ((128:Int)+((u / (64:Int)) % (64:Int)))) <|
    gd (0≤u∧1≤(64:Int)) <|
    gd (qAe ((128:Int)+(u % (64:Int)))) <|
    some (qAw [(((224:Int)+(u / (4096:Int))) % 256),(((128:Int)+((u / (64:Int)) % (64:Int))) % 256),(((128:Int)+(u % (64:Int))) % 256)]))
   else (
    gd (0≤u∧u≤9223372036854775807∧1≤(262144:Int)) <|
    gd (qAe ((240:Int)+(u / (262144:Int)))) <|
    gd (0≤u∧u≤9223372036854775807∧1≤(4096:Int)) <|
    gd (0≤(u / (4096:Int))∧1≤(64:Int)) <|
    gd (qAe ((128:Int)+((u / (4096:Int)) % (64:Int)))) <|
    gd (0≤u∧u≤9223372036854775807∧1≤(64:Int)) <|
    gd (0≤(u / (64:Int))∧1≤(64:Int)) <|
    gd (qAe ((128:Int)+((u / (64:Int)) % (64:Int)))) <|
    gd (0≤u∧1≤(64:Int)) <|
    gd (qAe ((128:Int)+(u % (64:Int)))) <|
    some (qAw [(((240:Int)+(u / (262144:Int))) % 256),(((128:Int)+((u / (4096:Int)) % (64:Int))) % 256),(((128:Int)+((u / (64:Int)) % (64:Int))) % 256),(((128:Int)+(u % (64:Int))) % 256)]))))
def zcd_G:Nat→Option CQ:=tblQ []
theorem zcd_Gok:∀f C,zcd_G f=some C→qAg Tryz.prog f C:=fun f C h=>by cases h
def zcd_L:Nat→SubQ:=tblL []
theorem zcd_subs:qAn zcd_L zcd_G 0 3 61 zcd_q:=qAk (show qAq zcd_L zcd_G 0 3 61 [] from tV)
def zcd_da:=(qAb (dVC (dCO dZ)) dNil)
def zcd_db:=(dNil:Dec Unit (List SB))
def zcd_c:CS:=mkC zcd_da zcd_db (fun x y=>zcd_s x.1) (fun x y r=>.c (.o (.vS r))) fun x y r=>[]
theorem zcd_val:qAl Tryz.prog 66 zcd_c:=qAm zcd_chk 3 zcd_Gok 0 (fun x=>Nat.le_of_ble_eq_true rfl) (fun y=>rfl) zcd_subs fun x y=>by
 simp only [zcd_s,-eq_self,qAd,qAf,obA,obS,slL,slR,qAc];kernel_rfl
def zcd_w:CQ:=qCj [] zcd_c
theorem zcd_ok:qAg Tryz.prog 66 zcd_w:=qAx zcd_val
def zci_b1:IQ:=(.loop [0,1,4,7,8,9] (.seq (.seq (rg 64 [oM 63 t9,oP 64 (.bi .lss t63 (vI 2))]) (.cond t64 .skip (.cn [0,1,4,7,8] (.exit 1)))) (.seq (.block 2 (.seq (rg 10 [oM 67 t0,oP 68 (.faddr 0 t8),oP 69 (.load none t68),oM 70 t9,oP 71 (.bi .add t69 t70),oP 72 (.call 39 [t67,t71]),oM 10 t72]) (.seq (.seq (rg 74 [oM 73 t10,oP 74 (.bi .lss t73 (vI 0))]) (.cond t74 (.seq (rg 0 [oM 75 t0,oP 76 (.lenS t75),oP 77 (.call 40 [(vI 31),t76]),oN (.store 5 t4 t77)]) (.canon [(4,some 1,.node,34)] [4] .ret)) .skip)) (.seq (rg 91 [oM 78 t9,oP 79 (.bi .eql t78 (vI 0)),oM 80 t79,oF 81 (.mv t10) 80,oF 82 (.bi .neq t81 (vI 92)) 80,oP 83 (.pick t80 t82 vF),oM 84 t83,oE 85 (.mv t9) 84,oE 86 (.bi .eql t85 (vI 1)) 84,oE 87 (.mv t86) 84,oF 88 (.mv t10) 87,oF 89 (.bi .neq t88 (vI 117)) 87,oE 90 (.pick t87 t89 vF) 84,oP 91 (.pick t84 vT t90)]) (.cond t91 (.seq (rg 0 [oM 92 t1,oP 93 (.call 40 [(vI 33),t92]),oN (.store 5 t4 t93)]) (.canon [(4,some 1,.node,34)] [4] .ret)) .skip))))) (rg 9 [oM 65 t9,oP 66 (.bi .add t65 (vI 1)),oM 9 t66]))))
def zci_b0:IQ:=(.join [] [1,4,6] (.cond t23 (rg 6 [oM 27 t5,oM 6 t27]) (.seq (rg 28 [oP 29 (.bi .eql t17 (vI 98)),oM 28 t29]) (.cond t28 (rg 6 [oP 6 (.mv (vI 8))]) (.seq (rg 30 [oP 31 (.bi .eql t17 (vI 102)),oM 30 t31]) (.cond t30 (rg 6 [oP 6 (.mv (vI 12))]) (.seq (rg 32 [oP 33 (.bi .eql t17 (vI 110)),oM 32 t33]) (.cond t32 (rg 6 [oP 6 (.mv (vI 10))]) (.seq (rg 34 [oP 35 (.bi .eql t17 (vI 114)),oM 34 t35]) (.cond t34 (rg 6 [oP 6 (.mv (vI 13))]) (.seq (rg 36 [oP 37 (.bi .eql t17 (vI 116)),oM 36 t37]) (.cond t36 (rg 6 [oP 6 (.mv (vI 9))]) (.seq (rg 38 [oP 39 (.bi .eql t17 (vI 117)),oM 38 t39]) (.cond t38 (.seq (rg 0 [oM 41 t0,oM 42 t1,oP 43 (.bi .add t42 (vI 2)),oM 44 t1,oP 45 (.call 65 [t41,t43,(vI 0),t44]),oM 40 t45,oP 46 (.extract t40 0),oP 47 (.extract t40 1),oP 8 (.alloc 60 [.int .i64 0,.slice none 0 0,.string ⟨#[]⟩,.int .i64 0,.int .i64 0]),oM 7 t46,oN (.store 5 t8 t47)]) (.seq (.seq (rg 58 [oP 48 (.faddr 3 t8),oP 49 (.load none t48),oP 50 (.bi .neq t49 (vI 0)),oM 51 t50,oE 52 (.mv t7) 51,oE 53 (.bi .lss t52 (vI 55296)) 51,oP 54 (.pick t51 vT t53),oM 55 t54,oE 56 (.mv t7) 55,oE 57 (.bi .gtr t56 (vI 57343)) 55,oP 58 (.pick t55 vT t57)]) (.cond t58 (.seq (rg 0 [oM 59 t7,oP 60 (.call 66 [t59]),oP 61 (.faddr 2 t8),oN (.store 1 t61 t60)]) (.seq (rg 0 [oP 62 (.load (some 5) t8),oN (.store 5 t4 t62)]) (.canon [(4,some 1,.node,34)] [4] .ret))) .skip)) (.seq (.seq (rg 9 [oP 9 (.mv (vI 0))]) (.block 1 (.cn [0,1,4,7,8,9] (.sub 1 zci_b1)))) (.seq (rg 0 [oM 95 t0,oP 96 (.faddr 0 t8),oP 97 (.load none t96),oP 98 (.bi .add t97 (vI 2)),oM 99 t1,oP 100 (.call 65 [t95,t98,(vI 2),t99]),oM 94 t100,oP 101 (.extract t94 0),oP 102 (.extract t94 1),oP 12 (.alloc 60 [.int .i64 0,.slice none 0 0,.string ⟨#[]⟩,.int .i64 0,.int .i64 0]),oM 11 t101,oN (.store 5 t12 t102)]) (.seq (rg 0 [oM 103 t7,oP 104 (.bi .sub t103 (vI 55296)),oP 105 (.bi .mul (vI 1024) t104),oP 106 (.bi .add (vI 65536) t105),oM 107 t11,oP 108 (.bi .add t106 t107),oP 109 (.bi .sub t108 (vI 56320)),oP 110 (.call 66 [t109]),oP 111 (.faddr 2 t12),oN (.store 1 t111 t110)]) (.seq (rg 0 [oP 112 (.load (some 5) t12),oN (.store 5 t4 t112)]) (.canon [(4,some 1,.node,34)] [4] .ret))))))) .skip))))))))))))))
def zci_b2:IQ:=(.seq (.seq (rg 114 [oM 113 t6,oP 114 (.bi .lss t113 (vI 0))]) (.cond t114 (.seq (rg 0 [oM 115 t1,oP 116 (.call 40 [(vI 33),t115]),oN (.store 5 t4 t116)]) (.canon [(4,some 1,.node,34)] [4] .ret)) .skip)) (.seq (rg 0 [oM 117 t1,oP 118 (.bi .add t117 (vI 2)),oM 119 t6,oP 120 (.conv false .u8 t119),oP 121 (.bslice 5 1 1 [.int .u8 0] [(0,t120)]),oP 122 (.ext .toStr [t121]),oP 123 (.build [.int .i64 0,.slice none 0 0,.string ⟨#[]⟩,.int .i64 0,.int .i64 0] [(0,1,t118),(2,1,t122)]),oN (.store 5 t4 t123)]) (.canon [(4,some 1,.node,34)] [4] .ret)))
def zci_q:IQ:=(.seq (rg 4 [oP 4 (.alloc 60 [.int .i64 0,.slice none 0 0,.string ⟨#[]⟩,.int .i64 0,.int .i64 0])]) (.seq (rg 5 [oM 13 t0,oM 14 t1,oP 15 (.bi .add t14 (vI 1)),oP 16 (.call 39 [t13,t15]),oM 5 t16]) (.seq (rg 6 [oP 6 (.mv (.v (.int .i64 (-1))))]) (.seq (.seq (rg 17 [oM 17 t5]) (.block 0 (.seq (rg 18 [oP 19 (.bi .eql t17 (.v (.int .i64 (-1)))),oM 18 t19]) (.cond t18 (.seq (rg 0 [oM 20 t0,oP 21 (.lenS t20),oP 22 (.call 40 [(vI 31),t21]),oN (.store 5 t4 t22)]) (.canon [(4,some 1,.node,34)] [4] .ret)) (.seq (.seq (rg 23 [oP 24 (.bi .eql t17 (vI 34)),oM 23 t24]) (.cond t23 .skip (.seq (rg 23 [oP 25 (.bi .eql t17 (vI 92)),oM 23 t25]) (.cond t23 .skip (rg 23 [oP 26 (.bi .eql t17 (vI 47)),oM 23 t26]))))) (.cn [0,1,4,5,6,17,23] (.sub 0 zci_b0))))))) (.cn [1,4,6] (.sub 2 zci_b2))))))
theorem zci_chk:chk Tryz.prog 55 []=some (zci_q.erase,[.cell 4 (some 5)],124):=by kernel_rfl
def qCo (t:BA) (from_ i g_At:Int):Option (Int ⊕ ((Int × BA × Int × Int × (List Eng.Node)) ⊕ Unit)) :=
 bif decide (i<(2:Int)) then (
  gd (qAe (g_At+i)) <|
  (qDi t (g_At+i)).bind fun r14 =>
  bif decide (r14<(0:Int)) then (
   (qEh (31:Int) (t.size:Int)).bind fun r15 =>
   some (.inr (.inl (r15.at_,r15.s,r15.code,r15.bad,r15.l))))
  else (
   bif (((decide (i=(0:Int))) && (!decide (r14=(92:Int)))) || ((decide (i=(1:Int))) && (!decide (r14=(117:Int))))) then (
    (qEh (33:Int) from_).bind fun r16 =>
    some (.inr (.inl (r16.at_,r16.s,r16.code,r16.bad,r16.l))))
   else (
    gd (qAe (i+(1:Int))) <|
    some (.inl (i+(1:Int))))))
 else (
  some (.inr (.inr ())))
def zci_p1 (t:BA) (from_ i g_At:Int):Option ((Int × BA × Int × Int × (List Eng.Node)) ⊕ Unit) :=
 qA0 (fun x:Int=>qCo t from_ x g_At) i
def zci_p0 (t:BA) (from_ c said x17_:Int) (x23_:Bool):Option (Int ⊕ (Int × BA × Int × Int × (List Eng.Node))) :=
 bif x23_ then (
  some (.inl c))
 else (
  bif decide (x17_=(98:Int)) then (
   some (.inl (8:Int)))
  else (
   bif decide (x17_=(102:Int)) then (
    some (.inl (12:Int)))
   else (
    bif decide (x17_=(110:Int)) then (
     some (.inl (10:Int)))
    else (
     bif decide (x17_=(114:Int)) then (
      some (.inl (13:Int)))
     else (
      bif decide (x17_=(116:Int)) then (
       some (.inl (9:Int)))
      else (
       bif decide (x17_=(117:Int)) then (
        gd (qAe (from_+(2:Int))) <|
        (zck_s t (from_+(2:Int)) (0:Int) from_).bind fun r12 =>
        bif (((!decide (r12.2.code=(0:Int))) || (decide (r12.1<(55296:Int)))) || (decide ((57343:Int)<r12.1))) then (
         (zcd_s r12.1).bind fun r13 =>
         some (.inr (r12.2.at_,r13,r12.2.code,r12.2.bad,r12.2.l)))
        else (
         (zci_p1 t from_ (0:Int) r12.2.at_).bind fun o17=>(Sum.elim (fun (o17_0:Int × BA × Int × Int × (List Eng.Node)) =>
          some (.inr (o17_0.1,o17_0.2.1,o17_0.2.2.1,o17_0.2.2.2.1,o17_0.2.2.2.2))) (fun (o17_1:Unit) =>
          gd (qAe (r12.2.at_+(2:Int))) <|
          (zck_s t (r12.2.at_+(2:Int)) (2:Int) from_).bind fun r18 =>
          gd (qAe (r12.1 - (55296:Int))) <|
          gd (qAe ((1024:Int)*(r12.1 - (55296:Int)))) <|
          gd (qAe ((65536:Int)+((1024:Int)*(r12.1 - (55296:Int))))) <|
          gd (qAe (((65536:Int)+((1024:Int)*(r12.1 - (55296:Int))))+r18.1)) <|
          gd (qAe ((((65536:Int)+((1024:Int)*(r12.1 - (55296:Int))))+r18.1) - (56320:Int))) <|
          (zcd_s ((((65536:Int)+((1024:Int)*(r12.1 - (55296:Int))))+r18.1) - (56320:Int))).bind fun r19 =>
          some (.inr (r18.2.at_,r19,r18.2.code,r18.2.bad,r18.2.l)))) o17))
       else (
        some (.inl said))))))))
def zci_p2 (from_ said:Int):Option (Int × BA × Int × Int × (List Eng.Node)) :=
 bif decide (said<(0:Int)) then (
  (qEh (33:Int) from_).bind fun r21 =>
  some (r21.at_,r21.s,r21.code,r21.bad,r21.l))
 else (
  gd (qAe (from_+(2:Int))) <|
  some ((from_+(2:Int)),(qAw [(said % 256)]),(0:Int),(0:Int),[]))
def zci_s (t:BA) (from_:Int):Option qG0 :=
 gd (qAe (from_+(1:Int))) <|
 (qDi t (from_+(1:Int))).bind fun r10 =>
 bif decide (r10=(-1:Int)) then (
  (qEh (31:Int) (t.size:Int)).bind fun r11 =>
  some r11)
 else (
  bif decide (r10=(34:Int)) then (
   (zci_p0 t from_ r10 (-1:Int) r10 (decide (r10=(34:Int)))).bind fun o20=>(Sum.elim (fun (o20_0:Int) =>
    (zci_p2 from_ o20_0).bind fun o22 =>
    some (⟨o22.1,o22.2.2.2.2,o22.2.1,o22.2.2.1,o22.2.2.2.1⟩:qG0)) (fun (o20_1:Int × BA × Int × Int × (List Eng.Node)) =>
    some (⟨o20_1.1,o20_1.2.2.2.2,o20_1.2.1,o20_1.2.2.1,o20_1.2.2.2.1⟩:qG0))) o20)
  else (
   bif decide (r10=(92:Int)) then (
    (zci_p0 t from_ r10 (-1:Int) r10 (decide (r10=(92:Int)))).bind fun o23=>(Sum.elim (fun (o23_0:Int) =>
     (zci_p2 from_ o23_0).bind fun o24 =>
     some (⟨o24.1,o24.2.2.2.2,o24.2.1,o24.2.2.1,o24.2.2.2.1⟩:qG0)) (fun (o23_1:Int × BA × Int × Int × (List Eng.Node)) =>
     some (⟨o23_1.1,o23_1.2.2.2.2,o23_1.2.1,o23_1.2.2.1,o23_1.2.2.2.1⟩:qG0))) o23)
   else (
    (zci_p0 t from_ r10 (-1:Int) r10 (decide (r10=(47:Int)))).bind fun o25=>(Sum.elim (fun (o25_0:Int) =>
     (zci_p2 from_ o25_0).bind fun o26 =>
     some (⟨o26.1,o26.2.2.2.2,o26.2.1,o26.2.2.1,o26.2.2.2.1⟩:qG0)) (fun (o25_1:Int × BA × Int × Int × (List Eng.Node)) =>
     some (⟨o25_1.1,o25_1.2.2.2.2,o25_1.2.1,o25_1.2.2.1,o25_1.2.2.2.1⟩:qG0))) o25)))
def zci_G:Nat→Option CQ:=tblQ [(39,zcg_w),(40,zcj_w),(65,zck_w),(66,zcd_w)]
theorem zci_Gok:∀f C,zci_G f=some C→qAg Tryz.prog f C:=qAj ⟨zcg_ok,zcj_ok,zck_ok,zcd_ok,tV⟩
def zci_d1:=(dQS (qAb (dSO 0 dS) (qAb (dSO 1 dZ) (qAb (dSO 4 (dH 0 0)) (qAb (dSO 7 dZ) (qAb (dSO 8 (dH 1 0)) (qAb (dSO 9 dZ) dNil)))))) (qAb zDJQ1 (qAb (qGy 60 (qAb dZ (qAb (dO 2) zDJQ3))) (qAb (dRow .node 34) dNil))))
def zci_l1:SubQ:=mkL zci_d1 (fun x=>zci_p1 x.1.1 x.1.2.1 x.1.2.2.2.2.2.1 x.2.2.1.1) fun x r R kn kx kr=>(Sum.elim (fun (r_0:Int × BA × Int × Int × (List Eng.Node))=>kr ⟨[sL 4 (.hd 0 0)],[],[.cells 60 [.vI r_0.1,.own 1,.vS r_0.2.1,.vI r_0.2.2.1,.vI r_0.2.2.2.1],.row .node 34 r_0.2.2.2.2]⟩) (fun (r_1:Unit)=>kx 1 ⟨[sL 0 (.vS x.1.1),sL 1 (.vI x.1.2.1),sL 4 (.hd 0 0),sL 7 (.vI x.1.2.2.2.1),sL 8 (.hd 1 0)],[],[.cells 60 [.vI x.2.1.1,.val (.slice none 0 0),.vS x.2.1.2.2.1,.vI x.2.1.2.2.2.1,.vI x.2.1.2.2.2.2.1],.cells 60 [.vI x.2.2.1.1,.own 2,.vS x.2.2.1.2.2.1,.vI x.2.2.1.2.2.2.1,.vI x.2.2.1.2.2.2.2.1],.row .node 34 x.2.2.2.1]⟩)) r
def zci_d0:=(dQS (qAb (dSO 0 dS) (qAb (dSO 1 dZ) (qAb (dSO 4 (dH 0 0)) (qAb (dSO 5 dZ) (qAb (dSO 6 dZ) (qAb (dSO 17 dZ) (qAb (dSO 23 dB) dNil))))))) (qAb zDJQ1 dNil))
def zci_l0:SubQ:=mkL zci_d0 (fun x=>zci_p0 x.1.1 x.1.2.1 x.1.2.2.2.1 x.1.2.2.2.2.1 x.1.2.2.2.2.2.1 x.1.2.2.2.2.2.2.1) fun x r R kn kx kr=>(Sum.elim (fun (r_0:Int)=>kn ⟨[sL 1 (.vI x.1.2.1),sL 4 (.hd 0 0),sL 6 (.vI r_0)],[],[.cells 60 [.vI x.2.1.1,.val (.slice none 0 0),.vS x.2.1.2.2.1,.vI x.2.1.2.2.2.1,.vI x.2.1.2.2.2.2.1]]⟩) (fun (r_1:Int × BA × Int × Int × (List Eng.Node))=>kr ⟨[sL 4 (.hd 0 0)],[],[.cells 60 [.vI r_1.1,.own 1,.vS r_1.2.1,.vI r_1.2.2.1,.vI r_1.2.2.2.1],.row .node 34 r_1.2.2.2.2]⟩)) r
def zci_d2:=(dQS (qAb (dSO 1 dZ) (qAb (dSO 4 (dH 0 0)) (qAb (dSO 6 dZ) dNil))) (qAb zDJQ1 dNil))
def zci_l2:SubQ:=mkL zci_d2 (fun x=>zci_p2 x.1.1 x.1.2.2.1) fun x r R kn kx kr=>kr ⟨[sL 4 (.hd 0 0)],[],[.cells 60 [.vI r.1,.own 1,.vS r.2.1,.vI r.2.2.1,.vI r.2.2.2.1],.row .node 34 r.2.2.2.2]⟩
def zci_L:Nat→SubQ:=tblL [(1,zci_l1),(0,zci_l0),(2,zci_l2)]
theorem zci_sub1:qA4 zci_L zci_G 0 18 124 1 zci_b1:=qAr (show zci_L 1=zci_l1 from by kernel_rfl) fun x R kn kx kr=>qAo (step:=fun y=>qCo x.1.1 x.1.2.1 y x.2.2.1.1) (enc:=fun (y:Int)=>zci_d1.e ((x.1.1,x.1.2.1,x.1.2.2.1,x.1.2.2.2.1,x.1.2.2.2.2.1,y,x.1.2.2.2.2.2.2),x.2)) (fun y=>by kernel_rfl) (fun y ki=>by simp only [qCo,-eq_self,qAd,qAf,obA,obS,slL,slR,qAc]; kernel_rfl) x.1.2.2.2.2.2.1
theorem zci_sub0:qA4 zci_L zci_G 0 18 124 0 zci_b0:=qAr (show zci_L 0=zci_l0 from by kernel_rfl) fun x R kn kx kr=>by
 simp only [zci_p0,-eq_self,qAd,qAf,obA,obS,slL,slR,qAc];kernel_rfl
theorem zci_sub2:qA4 zci_L zci_G 0 18 124 2 zci_b2:=qAr (show zci_L 2=zci_l2 from by kernel_rfl) fun x R kn kx kr=>by
 simp only [zci_p2,-eq_self,qAd,qAf,obA,obS,slL,slR,qAc];kernel_rfl
theorem zci_subs:qAn zci_L zci_G 0 18 124 zci_q:=qAk (show qAq zci_L zci_G 0 18 124 [(0,zci_b0),(1,zci_b1),(2,zci_b2)] from ⟨zci_sub0,zci_sub1,zci_sub2,tV⟩)
def zci_da:=(qAb (dVC (dCO dS)) (qAb (dVC (dCO dZ)) dNil))
def zci_db:=(dNil:Dec Unit (List SB))
def zci_c:CS:=mkC zci_da zci_db (fun x y=>zci_s x.1 x.2.1) (fun x y r=>.c (.agg [.vI r.at_,.own 0,.vS r.s,.vI r.code,.vI r.bad])) fun x y r=>[.row .node 34 r.l]
theorem zci_val:qAl Tryz.prog 55 zci_c:=qAm zci_chk 18 zci_Gok 0 (fun x=>Nat.le_of_ble_eq_true rfl) (fun y=>rfl) zci_subs fun x y=>by
 simp only [zci_s,-eq_self,qAd,qAf,obA,obS,slL,slR,qAc];kernel_rfl
def zci_w:CQ:=qBr [] zci_c
theorem zci_ok:qAg Tryz.prog 55 zci_w:=qBc zci_val
def zcf_q:IQ:=(.seq (rg 4 [oP 2 (.mv (vI 0)),oP 3 (.mv (vI 0)),oP 4 (.mv (vI 0))]) (.seq (.block 0 (.seq (rg 5 [oM 6 t0,oP 7 (.bi .lss t6 (vI 194)),oM 8 t7,oE 9 (.mv t0) 8,oE 10 (.bi .gtr t9 (vI 244)) 8,oP 11 (.pick t8 vT t10),oM 5 t11]) (.cond t5 (.seq (rg 4 [oP 2 (.mv (.v (.int .i64 (-1)))),oP 3 (.mv (vI 0)),oP 4 (.mv (vI 0))]) (.cn [2,3,4] .ret)) (.seq (rg 12 [oM 13 t0,oP 14 (.bi .lss t13 (vI 224)),oM 12 t14]) (.cond t12 (.seq (rg 4 [oP 2 (.mv (vI 1)),oP 3 (.mv (vI 128)),oP 4 (.mv (vI 191))]) (.cn [2,3,4] .ret)) (.seq (rg 15 [oM 16 t0,oP 17 (.bi .eql t16 (vI 224)),oM 15 t17]) (.cond t15 (.seq (rg 4 [oP 2 (.mv (vI 2)),oP 3 (.mv (vI 160)),oP 4 (.mv (vI 191))]) (.cn [2,3,4] .ret)) (.seq (rg 18 [oM 19 t0,oP 20 (.bi .eql t19 (vI 237)),oM 18 t20]) (.cond t18 (.seq (rg 4 [oP 2 (.mv (vI 2)),oP 3 (.mv (vI 128)),oP 4 (.mv (vI 159))]) (.cn [2,3,4] .ret)) (.seq (rg 21 [oM 22 t0,oP 23 (.bi .lss t22 (vI 240)),oM 21 t23]) (.cond t21 (.seq (rg 4 [oP 2 (.mv (vI 2)),oP 3 (.mv (vI 128)),oP 4 (.mv (vI 191))]) (.cn [2,3,4] .ret)) (.seq (rg 24 [oM 25 t0,oP 26 (.bi .eql t25 (vI 240)),oM 24 t26]) (.cond t24 (.seq (rg 4 [oP 2 (.mv (vI 3)),oP 3 (.mv (vI 144)),oP 4 (.mv (vI 191))]) (.cn [2,3,4] .ret)) (.seq (rg 27 [oM 28 t0,oP 29 (.bi .eql t28 (vI 244)),oM 27 t29]) (.cond t27 (.seq (rg 4 [oP 2 (.mv (vI 3)),oP 3 (.mv (vI 128)),oP 4 (.mv (vI 143))]) (.cn [2,3,4] .ret)) .skip))))))))))))))) (.seq (rg 4 [oP 2 (.mv (vI 3)),oP 3 (.mv (vI 128)),oP 4 (.mv (vI 191))]) (.cn [2,3,4] .ret))))
theorem zcf_chk:chk Tryz.prog 67 []=some (zcf_q.erase,[.tmp 2,.tmp 3,.tmp 4],30):=by kernel_rfl
def zcf_s (c:Int):Option (Int × Int × Int) :=
 bif ((decide (c<(194:Int))) || (decide ((244:Int)<c))) then (
  some ((-1:Int),(0:Int),(0:Int)))
 else (
  bif decide (c<(224:Int)) then (
   some ((1:Int),(128:Int),(191:Int)))
  else (
   bif decide (c=(224:Int)) then (
    some ((2:Int),(160:Int),(191:Int)))
   else (
    bif decide (c=(237:Int)) then (
     some ((2:Int),(128:Int),(159:Int)))
    else (
     bif decide (c<(240:Int)) then (
      some ((2:Int),(128:Int),(191:Int)))
     else (
      bif decide (c=(240:Int)) then (
       some ((3:Int),(144:Int),(191:Int)))
      else (
       bif decide (c=(244:Int)) then (
        some ((3:Int),(128:Int),(143:Int)))
       else (
        some ((3:Int),(128:Int),(191:Int)))))))))
def zcf_G:Nat→Option CQ:=tblQ []
theorem zcf_Gok:∀f C,zcf_G f=some C→qAg Tryz.prog f C:=fun f C h=>by cases h
def zcf_L:Nat→SubQ:=tblL []
theorem zcf_subs:qAn zcf_L zcf_G 0 5 30 zcf_q:=qAk (show qAq zcf_L zcf_G 0 5 30 [] from tV)
def zcf_da:=(qAb (dVC (dCO dZ)) dNil)
def zcf_db:=(dNil:Dec Unit (List SB))
def zcf_c:CS:=mkC zcf_da zcf_db (fun x y=>zcf_s x.1) (fun x y r=>.tup [.o (.vI r.1),.o (.vI r.2.1),.o (.vI r.2.2)]) fun x y r=>[]
theorem zcf_val:qAl Tryz.prog 67 zcf_c:=qAm zcf_chk 5 zcf_Gok 0 (fun x=>Nat.le_of_ble_eq_true rfl) (fun y=>rfl) zcf_subs fun x y=>by
 simp only [zcf_s,-eq_self,qAd,qAf,obA,obS,slL,slR,qAc];kernel_rfl
def zcf_w:CQ:=qCj [] zcf_c
theorem zcf_ok:qAg Tryz.prog 67 zcf_w:=qAx zcf_val
def zcr_b0:IQ:=(.loop [0,1,4,5,6,7,8] (.seq (.seq (rg 25 [oM 23 t8,oM 24 t5,oP 25 (.bi .leq t23 t24)]) (.cond t25 .skip (.cn [0,1,4,5] (.exit 0)))) (.seq (.block 1 (.seq (rg 9 [oM 28 t0,oM 29 t1,oM 30 t8,oP 31 (.bi .add t29 t30),oP 32 (.call 39 [t28,t31]),oM 9 t32]) (.seq (.seq (rg 34 [oM 33 t9,oP 34 (.bi .lss t33 (vI 0))]) (.cond t34 (.seq (rg 0 [oM 35 t0,oP 36 (.lenS t35),oP 37 (.call 40 [(vI 31),t36]),oN (.store 5 t4 t37)]) (.canon [(4,some 1,.node,34)] [4] .ret)) .skip)) (.seq (.seq (rg 45 [oM 38 t9,oM 39 t6,oP 40 (.bi .lss t38 t39),oM 41 t40,oE 42 (.mv t9) 41,oE 43 (.mv t7) 41,oE 44 (.bi .gtr t42 t43) 41,oP 45 (.pick t41 vT t44)]) (.cond t45 (.seq (rg 0 [oM 46 t1,oP 47 (.call 40 [(vI 32),t46]),oN (.store 5 t4 t47)]) (.canon [(4,some 1,.node,34)] [4] .ret)) .skip)) (.seq (rg 6 [oP 6 (.mv (vI 128))]) (rg 7 [oP 7 (.mv (vI 191))])))))) (rg 8 [oM 26 t8,oP 27 (.bi .add t26 (vI 1)),oM 8 t27]))))
def zcr_q:IQ:=(.seq (rg 4 [oP 4 (.alloc 60 [.int .i64 0,.slice none 0 0,.string ⟨#[]⟩,.int .i64 0,.int .i64 0])]) (.seq (rg 7 [oM 11 t0,oM 12 t1,oP 13 (.index t11 t12),oP 14 (.conv false .i64 t13),oP 15 (.call 67 [t14]),oM 10 t15,oP 16 (.extract t10 0),oP 17 (.extract t10 1),oP 18 (.extract t10 2),oM 5 t16,oM 6 t17,oM 7 t18]) (.seq (.seq (rg 20 [oM 19 t5,oP 20 (.bi .lss t19 (vI 0))]) (.cond t20 (.seq (rg 0 [oM 21 t1,oP 22 (.call 40 [(vI 32),t21]),oN (.store 5 t4 t22)]) (.canon [(4,some 1,.node,34)] [4] .ret)) .skip)) (.seq (.seq (rg 8 [oP 8 (.mv (vI 1))]) (.block 0 (.cn [0,1,4,5,6,7,8] (.sub 0 zcr_b0)))) (.seq (rg 0 [oM 48 t1,oM 49 t5,oP 50 (.bi .add t48 t49),oP 51 (.bi .add t50 (vI 1)),oM 52 t0,oM 53 t1,oM 54 t1,oM 55 t5,oP 56 (.bi .add t54 t55),oP 57 (.bi .add t56 (vI 1)),oP 58 (.sub none t52 (some t53) (some t57)),oP 59 (.build [.int .i64 0,.slice none 0 0,.string ⟨#[]⟩,.int .i64 0,.int .i64 0] [(0,1,t51),(2,1,t58)]),oN (.store 5 t4 t59)]) (.canon [(4,some 1,.node,34)] [4] .ret))))))
theorem zcr_chk:chk Tryz.prog 56 []=some (zcr_q.erase,[.cell 4 (some 5)],60):=by kernel_rfl
def qDa (t:BA) (at_ n low high i:Int):Option ((Int × Int × Int) ⊕ ((Int × BA × Int × Int × (List Eng.Node)) ⊕ Unit)) :=
 bif decide (i≤n) then (
  gd (qAe (at_+i)) <|
  (qDi t (at_+i)).bind fun r18 =>
  bif decide (r18<(0:Int)) then (
   (qEh (31:Int) (t.size:Int)).bind fun r19 =>
   some (.inr (.inl (r19.at_,r19.s,r19.code,r19.bad,r19.l))))
  else (
   bif ((decide (r18<low)) || (decide (high<r18))) then (
    (qEh (32:Int) at_).bind fun r20 =>
    some (.inr (.inl (r20.at_,r20.s,r20.code,r20.bad,r20.l))))
   else (
    gd (qAe (i+(1:Int))) <|
    some (.inl ((128:Int),(191:Int),(i+(1:Int)))))))
 else (
  some (.inr (.inr ())))
def zcr_p0 (t:BA) (at_ n low high i:Int):Option ((Int × BA × Int × Int × (List Eng.Node)) ⊕ Unit) :=
 qA0 (fun x:(Int × Int × Int)=>qDa t at_ n x.1 x.2.1 x.2.2) (low,high,i)
def zcr_s (t:BA) (at_:Int):Option qG0 :=
 gd (0≤at_∧at_<t.size) <|
 gd (qAe (bAt t at_)) <|
 (zcf_s (bAt t at_)).bind fun r16 =>
 bif decide (r16.1<(0:Int)) then (
  (qEh (32:Int) at_).bind fun r17 =>
  some r17)
 else (
  (zcr_p0 t at_ r16.1 r16.2.1 r16.2.2 (1:Int)).bind fun o21=>(Sum.elim (fun (o21_0:Int × BA × Int × Int × (List Eng.Node)) =>
   some (⟨o21_0.1,o21_0.2.2.2.2,o21_0.2.1,o21_0.2.2.1,o21_0.2.2.2.1⟩:qG0)) (fun (o21_1:Unit) =>
   gd (qAe (at_+r16.1)) <|
   gd (qAe ((at_+r16.1)+(1:Int))) <|
   gd (qAe (at_+r16.1)) <|
   gd (qAe ((at_+r16.1)+(1:Int))) <|
   gd (0≤at_∧at_≤((at_+r16.1)+(1:Int))∧((at_+r16.1)+(1:Int))≤t.size) <|
   some (⟨((at_+r16.1)+(1:Int)),[],(t.extract (Int.toNat at_) (Int.toNat ((at_+r16.1)+(1:Int)))),(0:Int),(0:Int)⟩:qG0))) o21)
def zcr_G:Nat→Option CQ:=tblQ [(67,zcf_w),(40,zcj_w),(39,zcg_w)]
theorem zcr_Gok:∀f C,zcr_G f=some C→qAg Tryz.prog f C:=qAj ⟨zcf_ok,zcj_ok,zcg_ok,tV⟩
def zcr_d0:=(dQS (qAb (dSO 0 dS) (qAb (dSO 1 dZ) (qAb (dSO 4 (dH 0 0)) (qAb (dSO 5 dZ) (qAb (dSO 6 dZ) (qAb (dSO 7 dZ) (qAb (dSO 8 dZ) dNil))))))) (qAb zDJQ1 dNil))
def zcr_l0:SubQ:=mkL zcr_d0 (fun x=>zcr_p0 x.1.1 x.1.2.1 x.1.2.2.2.1 x.1.2.2.2.2.1 x.1.2.2.2.2.2.1 x.1.2.2.2.2.2.2.1) fun x r R kn kx kr=>(Sum.elim (fun (r_0:Int × BA × Int × Int × (List Eng.Node))=>kr ⟨[sL 4 (.hd 0 0)],[],[.cells 60 [.vI r_0.1,.own 1,.vS r_0.2.1,.vI r_0.2.2.1,.vI r_0.2.2.2.1],.row .node 34 r_0.2.2.2.2]⟩) (fun (r_1:Unit)=>kx 0 ⟨[sL 0 (.vS x.1.1),sL 1 (.vI x.1.2.1),sL 4 (.hd 0 0),sL 5 (.vI x.1.2.2.2.1)],[],[.cells 60 [.vI x.2.1.1,.val (.slice none 0 0),.vS x.2.1.2.2.1,.vI x.2.1.2.2.2.1,.vI x.2.1.2.2.2.2.1]]⟩)) r
def zcr_L:Nat→SubQ:=tblL [(0,zcr_l0)]
theorem zcr_sub0:qA4 zcr_L zcr_G 0 10 60 0 zcr_b0:=qAr (show zcr_L 0=zcr_l0 from by kernel_rfl) fun x R kn kx kr=>qAo (step:=fun y=>qDa x.1.1 x.1.2.1 x.1.2.2.2.1 y.1 y.2.1 y.2.2) (enc:=fun (y:Int × Int × Int)=>zcr_d0.e ((x.1.1,x.1.2.1,x.1.2.2.1,x.1.2.2.2.1,y.1,y.2.1,y.2.2,x.1.2.2.2.2.2.2.2),x.2)) (fun y=>by kernel_rfl) (fun y ki=>by simp only [qDa,-eq_self,qAd,qAf,obA,obS,slL,slR,qAc]; kernel_rfl) (x.1.2.2.2.2.1,x.1.2.2.2.2.2.1,x.1.2.2.2.2.2.2.1)
theorem zcr_subs:qAn zcr_L zcr_G 0 10 60 zcr_q:=qAk (show qAq zcr_L zcr_G 0 10 60 [(0,zcr_b0)] from ⟨zcr_sub0,tV⟩)
def zcr_da:=(qAb (dVC (dCO dS)) (qAb (dVC (dCO dZ)) dNil))
def zcr_db:=(dNil:Dec Unit (List SB))
def zcr_c:CS:=mkC zcr_da zcr_db (fun x y=>zcr_s x.1 x.2.1) (fun x y r=>.c (.agg [.vI r.at_,.own 0,.vS r.s,.vI r.code,.vI r.bad])) fun x y r=>[.row .node 34 r.l]
theorem zcr_val:qAl Tryz.prog 56 zcr_c:=qAm zcr_chk 10 zcr_Gok 0 (fun x=>Nat.le_of_ble_eq_true rfl) (fun y=>rfl) zcr_subs fun x y=>by
 simp only [zcr_s,-eq_self,qAd,qAf,obA,obS,slL,slR,qAc];kernel_rfl
def zcr_w:CQ:=qBr [] zcr_c
theorem zcr_ok:qAg Tryz.prog 56 zcr_w:=qBc zcr_val
def zcp_b1:IQ:=(.join [] [0,1,4,5] (.seq (.seq (rg 46 [oP 44 (.faddr 3 t7),oP 45 (.load none t44),oP 46 (.bi .neq t45 (vI 0))]) (.cond t46 (.seq (rg 0 [oP 47 (.load (some 5) t7),oN (.store 5 t4 t47)]) (.canon [(4,some 1,.node,34)] [4] .ret)) .skip)) (.seq (rg 5 [oM 48 t5,oP 49 (.faddr 2 t7),oP 50 (.load none t49),oP 51 (.ext (.appStr 5) [t48,t50]),oM 5 t51]) (rg 1 [oP 52 (.faddr 0 t7),oP 53 (.load none t52),oM 1 t53]))))
def zcp_b0:IQ:=(.loop [0,1,4,5] (.block 1 (.seq (rg 6 [oM 8 t0,oM 9 t1,oP 10 (.call 39 [t8,t9]),oM 6 t10]) (.seq (rg 7 [oP 7 (.alloc 60 [.int .i64 0,.slice none 0 0,.string ⟨#[]⟩,.int .i64 0,.int .i64 0])]) (.seq (.block 2 (.seq (rg 14 [oM 15 t6,oP 16 (.bi .lss t15 (vI 32)),oM 14 t16]) (.cond t14 (.seq (rg 0 [oM 17 t1,oP 18 (.call 40 [(vI 31),t17]),oN (.store 5 t4 t18)]) (.canon [(4,some 1,.node,34)] [4] .ret)) (.seq (rg 19 [oM 20 t6,oP 21 (.bi .eql t20 (vI 34)),oM 19 t21]) (.cond t19 (.seq (rg 0 [oM 22 t1,oP 23 (.bi .add t22 (vI 1)),oM 24 t5,oP 25 (.ext .toStr [t24]),oP 26 (.build [.int .i64 0,.slice none 0 0,.string ⟨#[]⟩,.int .i64 0,.int .i64 0] [(0,1,t23),(2,1,t25)]),oN (.store 5 t4 t26)]) (.canon [(4,some 1,.node,34)] [4] .ret)) (.seq (rg 27 [oM 28 t6,oP 29 (.bi .eql t28 (vI 92)),oM 27 t29]) (.cond t27 (rg 0 [oM 30 t0,oM 31 t1,oP 32 (.call 55 [t30,t31]),oN (.store 5 t7 t32)]) (.seq (rg 33 [oM 34 t6,oP 35 (.bi .lss t34 (vI 128)),oM 33 t35]) (.cond t33 (rg 0 [oM 36 t1,oP 37 (.bi .add t36 (vI 1)),oM 38 t0,oM 39 t1,oM 40 t1,oP 41 (.bi .add t40 (vI 1)),oP 42 (.sub none t38 (some t39) (some t41)),oP 43 (.build [.int .i64 0,.slice none 0 0,.string ⟨#[]⟩,.int .i64 0,.int .i64 0] [(0,1,t37),(2,1,t42)]),oN (.store 5 t7 t43)]) (rg 0 [oM 11 t0,oM 12 t1,oP 13 (.call 56 [t11,t12]),oN (.store 5 t7 t13)])))))))))) (.canon [(5,none,.u8,5),(7,some 1,.node,34)] [0,4,5,7] (.sub 1 zcp_b1)))))))
def zcp_q:IQ:=(.seq (rg 4 [oP 4 (.alloc 60 [.int .i64 0,.slice none 0 0,.string ⟨#[]⟩,.int .i64 0,.int .i64 0])]) (.seq (rg 5 [oP 5 (.mv (.v (.slice none 0 0)))]) (.block 0 (.canon [(5,none,.u8,5)] [0,1,4,5] (.sub 0 zcp_b0)))))
theorem zcp_chk:chk Tryz.prog 42 []=some (zcp_q.erase,[.cell 4 (some 5)],54):=by kernel_rfl
def zcp_p1 (b:List Int) (g_S:BA) (qHn:Int):Option (Unit ⊕ ((List Int))) :=
 bif (!decide (qHn=(0:Int))) then (
  some (.inl ()))
 else (
  gd (b.length+g_S.size≤140737488355328) <|
  some (.inr (b++(qBb g_S))))
def qBt (t:BA) (at_:Int) (b:List Int):Option ((Int × (List Int)) ⊕ (Int × BA × Int × Int × (List Eng.Node))) :=
 (qDi t at_).bind fun r20 =>
 bif decide (r20<(32:Int)) then (
  (qEh (31:Int) at_).bind fun r21 =>
  some (.inr (r21.at_,r21.s,r21.code,r21.bad,r21.l)))
 else (
  bif decide (r20=(34:Int)) then (
   gd (qAe (at_+(1:Int))) <|
   some (.inr ((at_+(1:Int)),(qAw b),(0:Int),(0:Int),[])))
  else (
   bif decide (r20=(92:Int)) then (
    (zci_s t at_).bind fun r22 =>
    (zcp_p1 b r22.s r22.code).bind fun o23=>(Sum.elim (fun (o23_0:Unit) =>
     some (.inr (r22.at_,r22.s,r22.code,r22.bad,r22.l))) (fun (o23_1:(List Int)) =>
     some (.inl (r22.at_,o23_1)))) o23)
   else (
    bif decide (r20<(128:Int)) then (
     gd (qAe (at_+(1:Int))) <|
     gd (qAe (at_+(1:Int))) <|
     gd (0≤at_∧at_≤(at_+(1:Int))∧(at_+(1:Int))≤t.size) <|
     (zcp_p1 b (t.extract (Int.toNat at_) (Int.toNat (at_+(1:Int)))) (0:Int)).bind fun o24=>(Sum.elim (fun (o24_0:Unit) =>
      some (.inr ((at_+(1:Int)),(t.extract (Int.toNat at_) (Int.toNat (at_+(1:Int)))),(0:Int),(0:Int),[]))) (fun (o24_1:(List Int)) =>
      some (.inl ((at_+(1:Int)),o24_1)))) o24)
    else (
     (zcr_s t at_).bind fun r25 =>
     (zcp_p1 b r25.s r25.code).bind fun o26=>(Sum.elim (fun (o26_0:Unit) =>
      some (.inr (r25.at_,r25.s,r25.code,r25.bad,r25.l))) (fun (o26_1:(List Int)) =>
      some (.inl (r25.at_,o26_1)))) o26))))
def zcp_p0 (t:BA) (at_:Int) (b:List Int):Option (Int × BA × Int × Int × (List Eng.Node)) :=
 qA0 (fun x:(Int × (List Int))=>qBt t x.1 x.2) (at_,b)
def zcp_s (t:BA) (at_:Int):Option qG0 :=
 (zcp_p0 t at_ []).bind fun o27 =>
 some (⟨o27.1,o27.2.2.2.2,o27.2.1,o27.2.2.1,o27.2.2.2.1⟩:qG0)
def zcp_G:Nat→Option CQ:=tblQ [(39,zcg_w),(40,zcj_w),(55,zci_w),(56,zcr_w)]
theorem zcp_Gok:∀f C,zcp_G f=some C→qAg Tryz.prog f C:=qAj ⟨zcg_ok,zcj_ok,zci_ok,zcr_ok,tV⟩
def zcp_d1:=(dQS (qAb (dSO 0 dS) (qAb (dSO 4 (dH 0 0)) (qAb (dSO 5 (dO 1)) (qAb (dSO 7 (dH 2 0)) dNil)))) (qAb zDJQ1 (qAb (dRow .u8 5) (qAb (qGy 60 (qAb dZ (qAb (dO 3) zDJQ3))) (qAb (dRow .node 34) dNil)))))
def zcp_l1:SubQ:=mkL zcp_d1 (fun x=>zcp_p1 x.2.2.1 x.2.2.2.1.2.2.1 x.2.2.2.1.2.2.2.1) fun x r R kn kx kr=>(Sum.elim (fun (r_0:Unit)=>kr ⟨[sL 4 (.hd 0 0)],[],[.cells 60 [.vI x.2.2.2.1.1,.own 1,.vS x.2.2.2.1.2.2.1,.vI x.2.2.2.1.2.2.2.1,.vI x.2.2.2.1.2.2.2.2.1],.row .node 34 x.2.2.2.2.1]⟩) (fun (r_1:(List Int))=>kn ⟨[sL 0 (.vS x.1.1),sL 1 (.vI x.2.2.2.1.1),sL 4 (.hd 0 0),sL 5 (.own 1)],[],[.cells 60 [.vI x.2.1.1,.val (.slice none 0 0),.vS x.2.1.2.2.1,.vI x.2.1.2.2.2.1,.vI x.2.1.2.2.2.2.1],.row .u8 5 r_1]⟩)) r
def zcp_d0:=(dQS (qAb (dSO 0 dS) (qAb (dSO 1 dZ) (qAb (dSO 4 (dH 0 0)) (qAb (dSO 5 (dO 1)) dNil)))) (qAb zDJQ1 (qAb (dRow .u8 5) dNil)))
def zcp_l0:SubQ:=mkL zcp_d0 (fun x=>zcp_p0 x.1.1 x.1.2.1 x.2.2.1) fun x r R kn kx kr=>kr ⟨[sL 4 (.hd 0 0)],[],[.cells 60 [.vI r.1,.own 1,.vS r.2.1,.vI r.2.2.1,.vI r.2.2.2.1],.row .node 34 r.2.2.2.2]⟩
def zcp_L:Nat→SubQ:=tblL [(1,zcp_l1),(0,zcp_l0)]
theorem zcp_sub1:qA4 zcp_L zcp_G 0 8 54 1 zcp_b1:=qAr (show zcp_L 1=zcp_l1 from by kernel_rfl) fun x R kn kx kr=>by
 simp only [zcp_p1,-eq_self,qAd,qAf,obA,obS,slL,slR,qAc];kernel_rfl
theorem zcp_sub0:qA4 zcp_L zcp_G 0 8 54 0 zcp_b0:=qAr (show zcp_L 0=zcp_l0 from by kernel_rfl) fun x R kn kx kr=>qAo (step:=fun y=>qBt x.1.1 y.1 y.2) (enc:=fun (y:Int × (List Int))=>zcp_d0.e ((x.1.1,y.1,x.1.2.2),(x.2.1,y.2,x.2.2.2))) (fun y=>by kernel_rfl) (fun y ki=>by simp only [qBt,-eq_self,qAd,qAf,obA,obS,slL,slR,qAc]; kernel_rfl) (x.1.2.1,x.2.2.1)
theorem zcp_subs:qAn zcp_L zcp_G 0 8 54 zcp_q:=qAk (show qAq zcp_L zcp_G 0 8 54 [(0,zcp_b0),(1,zcp_b1)] from ⟨zcp_sub0,zcp_sub1,tV⟩)
def zcp_da:=(qAb (dVC (dCO dS)) (qAb (dVC (dCO dZ)) dNil))
def zcp_db:=(dNil:Dec Unit (List SB))
def zcp_c:CS:=mkC zcp_da zcp_db (fun x y=>zcp_s x.1 x.2.1) (fun x y r=>.c (.agg [.vI r.at_,.own 0,.vS r.s,.vI r.code,.vI r.bad])) fun x y r=>[.row .node 34 r.l]
theorem zcp_val:qAl Tryz.prog 42 zcp_c:=qAm zcp_chk 8 zcp_Gok 0 (fun x=>Nat.le_of_ble_eq_true rfl) (fun y=>rfl) zcp_subs fun x y=>by
 simp only [zcp_s,-eq_self,qAd,qAf,obA,obS,slL,slR,qAc];kernel_rfl
def zcp_w:CQ:=qBr [] zcp_c
theorem zcp_ok:qAg Tryz.prog 42 zcp_w:=qBc zcp_val
def zce_b0:IQ:=(.loop [0,1,5] (.seq (.seq (rg 9 [oM 6 t5,oM 7 t0,oP 8 (.len t7),oP 9 (.bi .lss t6 t8)]) (.cond t9 .skip (.cn [] (.exit 0)))) (.seq (.block 1 (.seq (rg 17 [oM 12 t0,oM 13 t5,oP 14 (.iaddr 1 t12 t13),oP 15 (.load none t14),oM 16 t1,oP 17 (.bi .eql t15 t16)]) (.cond t17 (.seq (rg 4 [oP 4 (.mv vT)]) (.cn [4] .ret)) .skip))) (rg 5 [oM 10 t5,oP 11 (.bi .add t10 (vI 1)),oM 5 t11]))))
def zce_q:IQ:=(.seq (rg 4 [oP 4 (.mv vF)]) (.seq (.seq (rg 5 [oP 5 (.mv (vI 0))]) (.block 0 (.cn [0,1,5] (.sub 0 zce_b0)))) (.seq (rg 4 [oP 4 (.mv vF)]) (.cn [4] .ret))))
theorem zce_chk:chk Tryz.prog 64 []=some (zce_q.erase,[.tmp 4],18):=by kernel_rfl
def qDv (s:BA) (i:Int) (l:List BA):Option (Int ⊕ (Bool ⊕ Unit)) :=
 bif decide (i<(l.length:Int)) then (
  gd (0≤i∧i<l.length) <|
  gd ((Int.toNat i)<l.length) <|
  bif decide ((l.getD (Int.toNat i) (ET.dft .str))=s) then (
   some (.inr (.inl true)))
  else (
   gd (qAe (i+(1:Int))) <|
   some (.inl (i+(1:Int)))))
 else (
  some (.inr (.inr ())))
def zce_p0 (s:BA) (i:Int) (l:List BA):Option (Bool ⊕ Unit) :=
 qA0 (fun x:Int=>qDv s x l) i
def zce_s (l:(List BA)) (s:BA):Option Bool :=
 (zce_p0 s (0:Int) l).bind fun o1=>(Sum.elim (fun (o1_0:Bool) =>
  some o1_0) (fun (o1_1:Unit) =>
  some false)) o1
def zce_G:Nat→Option CQ:=tblQ []
theorem zce_Gok:∀f C,zce_G f=some C→qAg Tryz.prog f C:=fun f C h=>by cases h
def zce_d0:=(dQS (qAb (dSO 0 (dO 0)) (qAb (dSO 1 dS) (qAb (dSO 5 dZ) dNil))) (qAb (qBi .str) dNil))
def zce_l0:SubQ:=mkL zce_d0 (fun x=>zce_p0 x.1.2.1 x.1.2.2.1 x.2.1) fun x r R kn kx kr=>(Sum.elim (fun (r_0:Bool)=>kr ⟨[sL 4 (.vB r_0)],[],[.view .str x.2.1]⟩) (fun (r_1:Unit)=>kx 0 ⟨[],[],[.view .str x.2.1]⟩)) r
def zce_L:Nat→SubQ:=tblL [(0,zce_l0)]
theorem zce_sub0:qA4 zce_L zce_G 1 6 18 0 zce_b0:=qAr (show zce_L 0=zce_l0 from by kernel_rfl) fun x R kn kx kr=>qAo (step:=fun y=>qDv x.1.2.1 y x.2.1) (enc:=fun (y:Int)=>zce_d0.e ((x.1.1,x.1.2.1,y,x.1.2.2.2),x.2)) (fun y=>by kernel_rfl) (fun y ki=>by simp only [qDv,-eq_self,qAd,qAf,obA,obS,slL,slR,qAc]; kernel_rfl) x.1.2.2.1
theorem zce_subs:qAn zce_L zce_G 1 6 18 zce_q:=qAk (show qAq zce_L zce_G 1 6 18 [(0,zce_b0)] from ⟨zce_sub0,tV⟩)
def zce_da:=(qAb (dVC (dCO (dO 0))) (qAb (dVC (dCO dS)) dNil))
def zce_db:=(qAb (qBi .str) dNil)
def zce_c:CS:=mkC zce_da zce_db (fun x y=>zce_s y.1 x.2.1) (fun x y r=>.c (.o (.vB r))) fun x y r=>[.view .str y.1]
theorem zce_val:qAl Tryz.prog 64 zce_c:=qAm zce_chk 6 zce_Gok 1 (fun x=>Nat.le_of_ble_eq_true rfl) (fun y=>rfl) zce_subs fun x y=>by
 simp only [zce_s,-eq_self,qAd,qAf,obA,obS,slL,slR,qAc];kernel_rfl
def zce_w:CQ:=qBm [(0,none,some (.str,9))] (qCj [false] zce_c)
theorem zce_ok:qAg Tryz.prog 64 zce_w:=qB1 zce_val
def zch_b0:IQ:=(.loop [0,1,4,5] (.seq (.seq (rg 22 [oM 7 t5,oM 8 t0,oP 9 (.lenS t8),oP 10 (.bi .lss t7 t9),oM 11 t10,oF 12 (.mv t0) 11,oF 13 (.mv t5) 11,oF 14 (.index t12 t13) 11,oF 15 (.bi .geq t14 (vC 48)) 11,oP 16 (.pick t11 t15 vF),oM 17 t16,oF 18 (.mv t0) 17,oF 19 (.mv t5) 17,oF 20 (.index t18 t19) 17,oF 21 (.bi .leq t20 (vC 57)) 17,oP 22 (.pick t17 t21 vF)]) (.cond t22 .skip (.cn [1,4,5] (.exit 0)))) (.block 1 (rg 5 [oM 23 t5,oP 24 (.bi .add t23 (vI 1)),oM 5 t24]))))
def zch_q:IQ:=(.seq (rg 4 [oP 4 (.alloc 60 [.int .i64 0,.slice none 0 0,.string ⟨#[]⟩,.int .i64 0,.int .i64 0])]) (.seq (rg 5 [oM 6 t1,oM 5 t6]) (.seq (.block 0 (.cn [0,1,4,5] (.sub 0 zch_b0))) (.seq (.seq (rg 27 [oM 25 t5,oM 26 t1,oP 27 (.bi .eql t25 t26)]) (.cond t27 (.seq (rg 0 [oM 28 t1,oP 29 (.call 40 [(vI 31),t28]),oN (.store 5 t4 t29)]) (.canon [(4,some 1,.node,34)] [4] .ret)) .skip)) (.seq (rg 0 [oM 30 t5,oP 31 (.build [.int .i64 0,.slice none 0 0,.string ⟨#[]⟩,.int .i64 0,.int .i64 0] [(0,1,t30)]),oN (.store 5 t4 t31)]) (.canon [(4,some 1,.node,34)] [4] .ret))))))
theorem zch_chk:chk Tryz.prog 57 []=some (zch_q.erase,[.cell 4 (some 5)],32):=by kernel_rfl
def qFi (t:BA) (n:Int):Option (Int ⊕ Int) :=
 gd ((decide (n<(t.size:Int)))=true→0≤n∧n<t.size) <|
 gd (((decide (n<(t.size:Int))) && (decide ((48:Int)≤(bAt t n))))=true→0≤n∧n<t.size) <|
 bif (((decide (n<(t.size:Int))) && (decide ((48:Int)≤(bAt t n)))) && (decide ((bAt t n)≤(57:Int)))) then (
  gd (qAe (n+(1:Int))) <|
  some (.inl (n+(1:Int))))
 else (
  some (.inr n))
def zch_p0 (t:BA) (n:Int):Option Int :=
 qA0 (fun x:Int=>qFi t x) n
def zch_s (t:BA) (at_:Int):Option qG0 :=
 (zch_p0 t at_).bind fun o1 =>
 bif decide (o1=at_) then (
  (qEh (31:Int) at_).bind fun r2 =>
  some r2)
 else (
  some (⟨o1,[],(⟨#[]⟩:BA),(0:Int),(0:Int)⟩:qG0))
def zch_G:Nat→Option CQ:=tblQ [(40,zcj_w)]
theorem zch_Gok:∀f C,zch_G f=some C→qAg Tryz.prog f C:=qAj ⟨zcj_ok,tV⟩
def zDJQ2:=(qAb (dSO 0 dS) (qAb (dSO 1 dZ) (qAb (dSO 4 (dH 0 0)) (qAb (dSO 5 dZ) dNil))))
def zch_d0:=(dQS zDJQ2 (qAb zDJQ1 dNil))
def zch_l0:SubQ:=mkL zch_d0 (fun x=>zch_p0 x.1.1 x.1.2.2.2.1) fun x r R kn kx kr=>kx 0 ⟨[sL 1 (.vI x.1.2.1),sL 4 (.hd 0 0),sL 5 (.vI r)],[],[.cells 60 [.vI x.2.1.1,.val (.slice none 0 0),.vS x.2.1.2.2.1,.vI x.2.1.2.2.2.1,.vI x.2.1.2.2.2.2.1]]⟩
def zch_L:Nat→SubQ:=tblL [(0,zch_l0)]
theorem zch_sub0:qA4 zch_L zch_G 0 6 32 0 zch_b0:=qAr (show zch_L 0=zch_l0 from by kernel_rfl) fun x R kn kx kr=>qAo (step:=fun y=>qFi x.1.1 y) (enc:=fun (y:Int)=>zch_d0.e ((x.1.1,x.1.2.1,x.1.2.2.1,y,x.1.2.2.2.2),x.2)) (fun y=>by kernel_rfl) (fun y ki=>by simp only [qFi,-eq_self,qAd,qAf,obA,obS,slL,slR,qAc]; kernel_rfl) x.1.2.2.2.1
theorem zch_subs:qAn zch_L zch_G 0 6 32 zch_q:=qAk (show qAq zch_L zch_G 0 6 32 [(0,zch_b0)] from ⟨zch_sub0,tV⟩)
def zch_da:=(qAb (dVC (dCO dS)) (qAb (dVC (dCO dZ)) dNil))
def zch_db:=(dNil:Dec Unit (List SB))
def zch_c:CS:=mkC zch_da zch_db (fun x y=>zch_s x.1 x.2.1) (fun x y r=>.c (.agg [.vI r.at_,.own 0,.vS r.s,.vI r.code,.vI r.bad])) fun x y r=>[.row .node 34 r.l]
theorem zch_val:qAl Tryz.prog 57 zch_c:=qAm zch_chk 6 zch_Gok 0 (fun x=>Nat.le_of_ble_eq_true rfl) (fun y=>rfl) zch_subs fun x y=>by
 simp only [zch_s,-eq_self,qAd,qAf,obA,obS,slL,slR,qAc];kernel_rfl
def zch_w:CQ:=qBr [] zch_c
theorem zch_ok:qAg Tryz.prog 57 zch_w:=qBc zch_val
def zco_b3:IQ:=(.join [] [0,1,4,5] (.seq (rg 0 [oM 71 t0,oM 72 t5,oP 73 (.call 57 [t71,t72]),oP 8 (.alloc 60 [.int .i64 0,.slice none 0 0,.string ⟨#[]⟩,.int .i64 0,.int .i64 0]),oN (.store 5 t8 t73)]) (.seq (.seq (rg 76 [oP 74 (.faddr 3 t8),oP 75 (.load none t74),oP 76 (.bi .neq t75 (vI 0))]) (.cond t76 (.seq (rg 0 [oP 77 (.load (some 5) t8),oN (.store 5 t4 t77)]) (.canon [(4,some 1,.node,34)] [4] .ret)) .skip)) (rg 5 [oP 78 (.faddr 0 t8),oP 79 (.load none t78),oM 5 t79]))))
def zco_b4:IQ:=(.seq (rg 10 [oM 81 t0,oM 82 t1,oM 83 t5,oP 84 (.sub none t81 (some t82) (some t83)),oP 85 (.call 58 [t84]),oM 80 t85,oP 86 (.extract t80 0),oP 87 (.extract t80 1),oM 9 t86,oM 10 t87]) (.seq (rg 0 [oM 88 t5,oM 89 t0,oM 90 t1,oM 91 t5,oP 92 (.sub none t89 (some t90) (some t91)),oM 93 t10,oM 94 t9,oP 95 (.build [.int .i64 0,.string ⟨#[]⟩,.string ⟨#[]⟩,.bool false,.int .i64 0,.int .i64 0] [(0,1,(vI 4)),(2,1,t92),(3,1,t93),(4,1,t94)]),oP 96 (.bslice 34 6 1 [.int .i64 0,.string ⟨#[]⟩,.string ⟨#[]⟩,.bool false,.int .i64 0,.int .i64 0] [(0,t95)]),oP 97 (.build [.int .i64 0,.slice none 0 0,.string ⟨#[]⟩,.int .i64 0,.int .i64 0] [(0,1,t88),(1,1,t96)]),oN (.store 5 t4 t97)]) (.canon [(4,some 1,.node,34)] [4] .ret)))
def zco_b2:IQ:=(.seq (.seq (rg 56 [oM 47 t0,oM 48 t5,oP 49 (.call 39 [t47,t48]),oP 50 (.bi .eql t49 (vI 101)),oM 51 t50,oE 52 (.mv t0) 51,oE 53 (.mv t5) 51,oE 54 (.call 39 [t52,t53]) 51,oE 55 (.bi .eql t54 (vI 69)) 51,oP 56 (.pick t51 vT t55)]) (.cond t56 (.seq (rg 5 [oM 57 t5,oP 58 (.bi .add t57 (vI 1)),oM 5 t58]) (.seq (.seq (rg 68 [oM 59 t0,oM 60 t5,oP 61 (.call 39 [t59,t60]),oP 62 (.bi .eql t61 (vI 43)),oM 63 t62,oE 64 (.mv t0) 63,oE 65 (.mv t5) 63,oE 66 (.call 39 [t64,t65]) 63,oE 67 (.bi .eql t66 (vI 45)) 63,oP 68 (.pick t63 vT t67)]) (.cond t68 (rg 5 [oM 69 t5,oP 70 (.bi .add t69 (vI 1)),oM 5 t70]) .skip)) (.cn [0,1,4,5] (.sub 3 zco_b3)))) .skip)) (.cn [0,1,4,5] (.sub 4 zco_b4)))
def zco_b1:IQ:=(.seq (.seq (rg 36 [oM 33 t0,oM 34 t5,oP 35 (.call 39 [t33,t34]),oP 36 (.bi .eql t35 (vI 46))]) (.cond t36 (.seq (rg 0 [oM 37 t0,oM 38 t5,oP 39 (.bi .add t38 (vI 1)),oP 40 (.call 57 [t37,t39]),oP 7 (.alloc 60 [.int .i64 0,.slice none 0 0,.string ⟨#[]⟩,.int .i64 0,.int .i64 0]),oN (.store 5 t7 t40)]) (.seq (.seq (rg 43 [oP 41 (.faddr 3 t7),oP 42 (.load none t41),oP 43 (.bi .neq t42 (vI 0))]) (.cond t43 (.seq (rg 0 [oP 44 (.load (some 5) t7),oN (.store 5 t4 t44)]) (.canon [(4,some 1,.node,34)] [4] .ret)) .skip)) (rg 5 [oP 45 (.faddr 0 t7),oP 46 (.load none t45),oM 5 t46]))) .skip)) (.cn [0,1,4,5] (.sub 2 zco_b2)))
def zco_b0:IQ:=(.seq (.seq (rg 21 [oM 18 t0,oM 19 t5,oP 20 (.call 39 [t18,t19]),oP 21 (.bi .eql t20 (vI 48))]) (.cond t21 (rg 5 [oM 22 t5,oP 23 (.bi .add t22 (vI 1)),oM 5 t23]) (.seq (rg 0 [oM 24 t0,oM 25 t5,oP 26 (.call 57 [t24,t25]),oP 6 (.alloc 60 [.int .i64 0,.slice none 0 0,.string ⟨#[]⟩,.int .i64 0,.int .i64 0]),oN (.store 5 t6 t26)]) (.seq (.seq (rg 29 [oP 27 (.faddr 3 t6),oP 28 (.load none t27),oP 29 (.bi .neq t28 (vI 0))]) (.cond t29 (.seq (rg 0 [oP 30 (.load (some 5) t6),oN (.store 5 t4 t30)]) (.canon [(4,some 1,.node,34)] [4] .ret)) .skip)) (rg 5 [oP 31 (.faddr 0 t6),oP 32 (.load none t31),oM 5 t32]))))) (.cn [0,1,4,5] (.sub 1 zco_b1)))
def zco_q:IQ:=(.seq (rg 4 [oP 4 (.alloc 60 [.int .i64 0,.slice none 0 0,.string ⟨#[]⟩,.int .i64 0,.int .i64 0])]) (.seq (rg 5 [oM 11 t1,oM 5 t11]) (.seq (.seq (rg 15 [oM 12 t0,oM 13 t5,oP 14 (.index t12 t13),oP 15 (.bi .eql t14 (vC 45))]) (.cond t15 (rg 5 [oM 16 t5,oP 17 (.bi .add t16 (vI 1)),oM 5 t17]) .skip)) (.cn [0,1,4,5] (.sub 0 zco_b0)))))
theorem zco_chk:chk Tryz.prog 43 []=some (zco_q.erase,[.cell 4 (some 5)],98):=by kernel_rfl
def qFy (t:BA) (at_:Int):Option ((Int × BA × Int × Int × (List Eng.Node)) ⊕ Int) :=
 (zch_s t at_).bind fun r6 =>
 bif (!decide (r6.code=(0:Int))) then (
  some (.inl (r6.at_,r6.s,r6.code,r6.bad,r6.l)))
 else (
  some (.inr r6.at_))
def qFo (t:BA) (from_ at_:Int):Option (BA × Int × Int × (List Eng.Node)) :=
 gd (0≤from_∧from_≤at_∧at_≤t.size) <|
 (zbu_s (t.extract (Int.toNat from_) (Int.toNat at_))).bind fun r8 =>
 gd (0≤from_∧from_≤at_∧at_≤t.size) <|
 some ((⟨#[]⟩:BA),(0:Int),(0:Int),[(⟨(4:Int),(⟨#[]⟩:BA),(t.extract (Int.toNat from_) (Int.toNat at_)),r8.2,r8.1,(0:Int)⟩:Eng.Node)])
def zco_p2 (t:BA) (from_ at_:Int):Option (Int × BA × Int × Int × (List Eng.Node)) :=
 (qDi t at_).bind fun r4 =>
 bif decide (r4=(101:Int)) then (
  gd (qAe (at_+(1:Int))) <|
  (qDi t (at_+(1:Int))).bind fun r5 =>
  bif decide (r5=(43:Int)) then (
   gd (qAe ((at_+(1:Int))+(1:Int))) <|
   (qFy t ((at_+(1:Int))+(1:Int))).bind fun o7=>(Sum.elim (fun (o7_0:Int × BA × Int × Int × (List Eng.Node)) =>
    some (o7_0.1,o7_0.2.1,o7_0.2.2.1,o7_0.2.2.2.1,o7_0.2.2.2.2)) (fun (o7_1:Int) =>
    (qFo t from_ o7_1).bind fun o9 =>
    some (o7_1,o9.1,o9.2.1,o9.2.2.1,o9.2.2.2))) o7)
  else (
   (qDi t (at_+(1:Int))).bind fun r10 =>
   bif decide (r10=(45:Int)) then (
    gd (qAe ((at_+(1:Int))+(1:Int))) <|
    (qFy t ((at_+(1:Int))+(1:Int))).bind fun o11=>(Sum.elim (fun (o11_0:Int × BA × Int × Int × (List Eng.Node)) =>
     some (o11_0.1,o11_0.2.1,o11_0.2.2.1,o11_0.2.2.2.1,o11_0.2.2.2.2)) (fun (o11_1:Int) =>
     (qFo t from_ o11_1).bind fun o12 =>
     some (o11_1,o12.1,o12.2.1,o12.2.2.1,o12.2.2.2))) o11)
   else (
    (qFy t (at_+(1:Int))).bind fun o13=>(Sum.elim (fun (o13_0:Int × BA × Int × Int × (List Eng.Node)) =>
     some (o13_0.1,o13_0.2.1,o13_0.2.2.1,o13_0.2.2.2.1,o13_0.2.2.2.2)) (fun (o13_1:Int) =>
     (qFo t from_ o13_1).bind fun o14 =>
     some (o13_1,o14.1,o14.2.1,o14.2.2.1,o14.2.2.2))) o13)))
 else (
  (qDi t at_).bind fun r15 =>
  bif decide (r15=(69:Int)) then (
   gd (qAe (at_+(1:Int))) <|
   (qDi t (at_+(1:Int))).bind fun r16 =>
   bif decide (r16=(43:Int)) then (
    gd (qAe ((at_+(1:Int))+(1:Int))) <|
    (qFy t ((at_+(1:Int))+(1:Int))).bind fun o17=>(Sum.elim (fun (o17_0:Int × BA × Int × Int × (List Eng.Node)) =>
     some (o17_0.1,o17_0.2.1,o17_0.2.2.1,o17_0.2.2.2.1,o17_0.2.2.2.2)) (fun (o17_1:Int) =>
     (qFo t from_ o17_1).bind fun o18 =>
     some (o17_1,o18.1,o18.2.1,o18.2.2.1,o18.2.2.2))) o17)
   else (
    (qDi t (at_+(1:Int))).bind fun r19 =>
    bif decide (r19=(45:Int)) then (
     gd (qAe ((at_+(1:Int))+(1:Int))) <|
     (qFy t ((at_+(1:Int))+(1:Int))).bind fun o20=>(Sum.elim (fun (o20_0:Int × BA × Int × Int × (List Eng.Node)) =>
      some (o20_0.1,o20_0.2.1,o20_0.2.2.1,o20_0.2.2.2.1,o20_0.2.2.2.2)) (fun (o20_1:Int) =>
      (qFo t from_ o20_1).bind fun o21 =>
      some (o20_1,o21.1,o21.2.1,o21.2.2.1,o21.2.2.2))) o20)
    else (
     (qFy t (at_+(1:Int))).bind fun o22=>(Sum.elim (fun (o22_0:Int × BA × Int × Int × (List Eng.Node)) =>
      some (o22_0.1,o22_0.2.1,o22_0.2.2.1,o22_0.2.2.2.1,o22_0.2.2.2.2)) (fun (o22_1:Int) =>
      (qFo t from_ o22_1).bind fun o23 =>
      some (o22_1,o23.1,o23.2.1,o23.2.2.1,o23.2.2.2))) o22)))
  else (
   (qFo t from_ at_).bind fun o24 =>
   some (at_,o24.1,o24.2.1,o24.2.2.1,o24.2.2.2)))
def zco_p1 (t:BA) (from_ at_:Int):Option (Int × BA × Int × Int × (List Eng.Node)) :=
 (qDi t at_).bind fun r2 =>
 bif decide (r2=(46:Int)) then (
  gd (qAe (at_+(1:Int))) <|
  (zch_s t (at_+(1:Int))).bind fun r3 =>
  bif (!decide (r3.code=(0:Int))) then (
   some (r3.at_,r3.s,r3.code,r3.bad,r3.l))
  else (
   (zco_p2 t from_ r3.at_).bind fun o25 =>
   some (o25.1,o25.2.1,o25.2.2.1,o25.2.2.2.1,o25.2.2.2.2)))
 else (
  (zco_p2 t from_ at_).bind fun o26 =>
  some (o26.1,o26.2.1,o26.2.2.1,o26.2.2.2.1,o26.2.2.2.2))
def zco_p0 (t:BA) (from_ at_:Int):Option (Int × BA × Int × Int × (List Eng.Node)) :=
 (qDi t at_).bind fun r1 =>
 bif decide (r1=(48:Int)) then (
  gd (qAe (at_+(1:Int))) <|
  (zco_p1 t from_ (at_+(1:Int))).bind fun o27 =>
  some (o27.1,o27.2.1,o27.2.2.1,o27.2.2.2.1,o27.2.2.2.2))
 else (
  (zch_s t at_).bind fun r28 =>
  bif (!decide (r28.code=(0:Int))) then (
   some (r28.at_,r28.s,r28.code,r28.bad,r28.l))
  else (
   (zco_p1 t from_ r28.at_).bind fun o29 =>
   some (o29.1,o29.2.1,o29.2.2.1,o29.2.2.2.1,o29.2.2.2.2)))
def zco_s (t:BA) (from_:Int):Option qG0 :=
 gd (0≤from_∧from_<t.size) <|
 bif decide ((bAt t from_)=(45:Int)) then (
  gd (qAe (from_+(1:Int))) <|
  (zco_p0 t from_ (from_+(1:Int))).bind fun o30 =>
  some (⟨o30.1,o30.2.2.2.2,o30.2.1,o30.2.2.1,o30.2.2.2.1⟩:qG0))
 else (
  (zco_p0 t from_ from_).bind fun o31 =>
  some (⟨o31.1,o31.2.2.2.2,o31.2.1,o31.2.2.1,o31.2.2.2.1⟩:qG0))
def zco_G:Nat→Option CQ:=tblQ [(39,zcg_w),(57,zch_w),(58,zbu_w)]
theorem zco_Gok:∀f C,zco_G f=some C→qAg Tryz.prog f C:=qAj ⟨zcg_ok,zch_ok,zbu_ok,tV⟩
def zco_d3:=(dQS zDJQ2 (qAb zDJQ1 dNil))
def zco_l3:SubQ:=mkL zco_d3 (fun x=>qFy x.1.1 x.1.2.2.2.1) fun x r R kn kx kr=>(Sum.elim (fun (r_0:Int × BA × Int × Int × (List Eng.Node))=>kr ⟨[sL 4 (.hd 0 0)],[],[.cells 60 [.vI r_0.1,.own 1,.vS r_0.2.1,.vI r_0.2.2.1,.vI r_0.2.2.2.1],.row .node 34 r_0.2.2.2.2]⟩) (fun (r_1:Int)=>kn ⟨[sL 0 (.vS x.1.1),sL 1 (.vI x.1.2.1),sL 4 (.hd 0 0),sL 5 (.vI r_1)],[],[.cells 60 [.vI x.2.1.1,.val (.slice none 0 0),.vS x.2.1.2.2.1,.vI x.2.1.2.2.2.1,.vI x.2.1.2.2.2.2.1]]⟩)) r
def zco_d4:=(dQS zDJQ2 (qAb zDJQ1 dNil))
def zco_l4:SubQ:=mkL zco_d4 (fun x=>qFo x.1.1 x.1.2.1 x.1.2.2.2.1) fun x r R kn kx kr=>kr ⟨[sL 4 (.hd 0 0)],[],[.cells 60 [.vI x.1.2.2.2.1,.own 1,.vS r.1,.vI r.2.1,.vI r.2.2.1],.row .node 34 r.2.2.2]⟩
def zco_d2:=(dQS zDJQ2 (qAb zDJQ1 dNil))
def zco_l2:SubQ:=mkL zco_d2 (fun x=>zco_p2 x.1.1 x.1.2.1 x.1.2.2.2.1) fun x r R kn kx kr=>kr ⟨[sL 4 (.hd 0 0)],[],[.cells 60 [.vI r.1,.own 1,.vS r.2.1,.vI r.2.2.1,.vI r.2.2.2.1],.row .node 34 r.2.2.2.2]⟩
def zco_d1:=(dQS zDJQ2 (qAb zDJQ1 dNil))
def zco_l1:SubQ:=mkL zco_d1 (fun x=>zco_p1 x.1.1 x.1.2.1 x.1.2.2.2.1) fun x r R kn kx kr=>kr ⟨[sL 4 (.hd 0 0)],[],[.cells 60 [.vI r.1,.own 1,.vS r.2.1,.vI r.2.2.1,.vI r.2.2.2.1],.row .node 34 r.2.2.2.2]⟩
def zco_d0:=(dQS zDJQ2 (qAb zDJQ1 dNil))
def zco_l0:SubQ:=mkL zco_d0 (fun x=>zco_p0 x.1.1 x.1.2.1 x.1.2.2.2.1) fun x r R kn kx kr=>kr ⟨[sL 4 (.hd 0 0)],[],[.cells 60 [.vI r.1,.own 1,.vS r.2.1,.vI r.2.2.1,.vI r.2.2.2.1],.row .node 34 r.2.2.2.2]⟩
def zco_L:Nat→SubQ:=tblL [(3,zco_l3),(4,zco_l4),(2,zco_l2),(1,zco_l1),(0,zco_l0)]
theorem zco_sub3:qA4 zco_L zco_G 0 11 98 3 zco_b3:=qAr (show zco_L 3=zco_l3 from by kernel_rfl) fun x R kn kx kr=>by
 simp only [qFy,-eq_self,qAd,qAf,obA,obS,slL,slR,qAc];kernel_rfl
theorem zco_sub4:qA4 zco_L zco_G 0 11 98 4 zco_b4:=qAr (show zco_L 4=zco_l4 from by kernel_rfl) fun x R kn kx kr=>by
 simp only [qFo,-eq_self,qAd,qAf,obA,obS,slL,slR,qAc];kernel_rfl
theorem zco_sub2:qA4 zco_L zco_G 0 11 98 2 zco_b2:=qAr (show zco_L 2=zco_l2 from by kernel_rfl) fun x R kn kx kr=>by
 simp only [zco_p2,-eq_self,qAd,qAf,obA,obS,slL,slR,qAc];kernel_rfl
theorem zco_sub1:qA4 zco_L zco_G 0 11 98 1 zco_b1:=qAr (show zco_L 1=zco_l1 from by kernel_rfl) fun x R kn kx kr=>by
 simp only [zco_p1,-eq_self,qAd,qAf,obA,obS,slL,slR,qAc];kernel_rfl
theorem zco_sub0:qA4 zco_L zco_G 0 11 98 0 zco_b0:=qAr (show zco_L 0=zco_l0 from by kernel_rfl) fun x R kn kx kr=>by
 simp only [zco_p0,-eq_self,qAd,qAf,obA,obS,slL,slR,qAc];kernel_rfl
theorem zco_subs:qAn zco_L zco_G 0 11 98 zco_q:=qAk (show qAq zco_L zco_G 0 11 98 [(0,zco_b0),(1,zco_b1),(2,zco_b2),(3,zco_b3),(4,zco_b4)] from ⟨zco_sub0,zco_sub1,zco_sub2,zco_sub3,zco_sub4,tV⟩)
def zco_da:=(qAb (dVC (dCO dS)) (qAb (dVC (dCO dZ)) dNil))
def zco_db:=(dNil:Dec Unit (List SB))
def zco_c:CS:=mkC zco_da zco_db (fun x y=>zco_s x.1 x.2.1) (fun x y r=>.c (.agg [.vI r.at_,.own 0,.vS r.s,.vI r.code,.vI r.bad])) fun x y r=>[.row .node 34 r.l]
theorem zco_val:qAl Tryz.prog 43 zco_c:=qAm zco_chk 11 zco_Gok 0 (fun x=>Nat.le_of_ble_eq_true rfl) (fun y=>rfl) zco_subs fun x y=>by
 simp only [zco_s,-eq_self,qAd,qAf,obA,obS,slL,slR,qAc];kernel_rfl
def zco_w:CQ:=qBr [] zco_c
theorem zco_ok:qAg Tryz.prog 43 zco_w:=qBc zco_val
def zcn_b0:IQ:=(.loop [0,1,2,3,8,9] (.seq (.seq (rg 13 [oM 10 t9,oM 11 t2,oP 12 (.lenS t11),oP 13 (.bi .lss t10 t12)]) (.cond t13 .skip (.cn [1,2,3,8] (.exit 0)))) (.seq (.block 1 (.seq (.reg 25 (some [0,1,2,3,5,6,7,8,4,9]) [oM 16 t0,oM 17 t1,oM 18 t9,oP 19 (.bi .add t17 t18),oM 21 t2,oM 22 t9,oP 23 (.index t21 t22),oP 24 (.conv false .i64 t23),oP 20 (.call 39 [t16,t19]),oP 25 (.bi .neq t20 t24)]) (.cond t25 (.seq (rg 0 [oM 26 t1,oM 27 t9,oP 28 (.bi .add t26 t27),oP 29 (.call 40 [(vI 31),t28]),oN (.store 5 t8 t29)]) (.canon [(8,some 1,.node,34)] [8] .ret)) .skip))) (rg 9 [oM 14 t9,oP 15 (.bi .add t14 (vI 1)),oM 9 t15]))))
def zcn_q:IQ:=(.seq (rg 8 [oP 8 (.alloc 60 [.int .i64 0,.slice none 0 0,.string ⟨#[]⟩,.int .i64 0,.int .i64 0])]) (.seq (.seq (rg 9 [oP 9 (.mv (vI 0))]) (.block 0 (.cn [0,1,2,3,8,9] (.sub 0 zcn_b0)))) (.seq (rg 0 [oM 30 t1,oM 31 t2,oP 32 (.lenS t31),oP 33 (.bi .add t30 t32),oM 34 t3,oP 35 (.build [.int .i64 0,.string ⟨#[]⟩,.string ⟨#[]⟩,.bool false,.int .i64 0,.int .i64 0] [(0,1,t34)]),oP 36 (.bslice 34 6 1 [.int .i64 0,.string ⟨#[]⟩,.string ⟨#[]⟩,.bool false,.int .i64 0,.int .i64 0] [(0,t35)]),oP 37 (.build [.int .i64 0,.slice none 0 0,.string ⟨#[]⟩,.int .i64 0,.int .i64 0] [(0,1,t33),(1,1,t36)]),oN (.store 5 t8 t37)]) (.canon [(8,some 1,.node,34)] [8] .ret))))
theorem zcn_chk:chk Tryz.prog 44 []=some (zcn_q.erase,[.cell 8 (some 5)],38):=by kernel_rfl
def qD3 (t:BA) (at_:Int) (word:BA) (i:Int):Option (Int ⊕ ((Int × BA × Int × Int × (List Eng.Node)) ⊕ Unit)) :=
 bif decide (i<(word.size:Int)) then (
  gd (qAe (at_+i)) <|
  gd (0≤i∧i<word.size) <|
  gd (qAe (bAt word i)) <|
  (qDi t (at_+i)).bind fun r3 =>
  bif (!decide (r3=(bAt word i))) then (
   gd (qAe (at_+i)) <|
   (qEh (31:Int) (at_+i)).bind fun r4 =>
   some (.inr (.inl (r4.at_,r4.s,r4.code,r4.bad,r4.l))))
  else (
   gd (qAe (i+(1:Int))) <|
   some (.inl (i+(1:Int)))))
 else (
  some (.inr (.inr ())))
def zcn_p0 (t:BA) (at_:Int) (word:BA) (i:Int):Option ((Int × BA × Int × Int × (List Eng.Node)) ⊕ Unit) :=
 qA0 (fun x:Int=>qD3 t at_ word x) i
def zcn_s (t:BA) (at_:Int) (word:BA) (kind:Int):Option qG0 :=
 (zcn_p0 t at_ word (0:Int)).bind fun o5=>(Sum.elim (fun (o5_0:Int × BA × Int × Int × (List Eng.Node)) =>
  some (⟨o5_0.1,o5_0.2.2.2.2,o5_0.2.1,o5_0.2.2.1,o5_0.2.2.2.1⟩:qG0)) (fun (o5_1:Unit) =>
  gd (qAe (at_+(word.size:Int))) <|
  some (⟨(at_+(word.size:Int)),[(⟨kind,(⟨#[]⟩:BA),(⟨#[]⟩:BA),false,(0:Int),(0:Int)⟩:Eng.Node)],(⟨#[]⟩:BA),(0:Int),(0:Int)⟩:qG0))) o5
def zcn_G:Nat→Option CQ:=tblQ [(39,zcg_w),(40,zcj_w)]
theorem zcn_Gok:∀f C,zcn_G f=some C→qAg Tryz.prog f C:=qAj ⟨zcg_ok,zcj_ok,tV⟩
def zcn_d0:=(dQS (qAb (dSO 0 dS) (qAb (dSO 1 dZ) (qAb (dSO 2 dS) (qAb (dSO 3 dZ) (qAb (dSO 8 (dH 0 0)) (qAb (dSO 9 dZ) dNil)))))) (qAb zDJQ1 dNil))
def zcn_l0:SubQ:=mkL zcn_d0 (fun x=>zcn_p0 x.1.1 x.1.2.1 x.1.2.2.1 x.1.2.2.2.2.2.1) fun x r R kn kx kr=>(Sum.elim (fun (r_0:Int × BA × Int × Int × (List Eng.Node))=>kr ⟨[sL 8 (.hd 0 0)],[],[.cells 60 [.vI r_0.1,.own 1,.vS r_0.2.1,.vI r_0.2.2.1,.vI r_0.2.2.2.1],.row .node 34 r_0.2.2.2.2]⟩) (fun (r_1:Unit)=>kx 0 ⟨[sL 1 (.vI x.1.2.1),sL 2 (.vS x.1.2.2.1),sL 3 (.vI x.1.2.2.2.1),sL 8 (.hd 0 0)],[],[.cells 60 [.vI x.2.1.1,.val (.slice none 0 0),.vS x.2.1.2.2.1,.vI x.2.1.2.2.2.1,.vI x.2.1.2.2.2.2.1]]⟩)) r
def zcn_L:Nat→SubQ:=tblL [(0,zcn_l0)]
theorem zcn_sub0:qA4 zcn_L zcn_G 0 10 38 0 zcn_b0:=qAr (show zcn_L 0=zcn_l0 from by kernel_rfl) fun x R kn kx kr=>qAo (step:=fun y=>qD3 x.1.1 x.1.2.1 x.1.2.2.1 y) (enc:=fun (y:Int)=>zcn_d0.e ((x.1.1,x.1.2.1,x.1.2.2.1,x.1.2.2.2.1,x.1.2.2.2.2.1,y,x.1.2.2.2.2.2.2),x.2)) (fun y=>by kernel_rfl) (fun y ki=>by simp only [qD3,-eq_self,qAd,qAf,obA,obS,slL,slR,qAc]; kernel_rfl) x.1.2.2.2.2.2.1
theorem zcn_subs:qAn zcn_L zcn_G 0 10 38 zcn_q:=qAk (show qAq zcn_L zcn_G 0 10 38 [(0,zcn_b0)] from ⟨zcn_sub0,tV⟩)
def zcn_da:=(qAb (dVC (dCO dS)) (qAb (dVC (dCO dZ)) (qAb (dVC (dCO dS)) (qAb (dVC (dCO dZ)) dNil))))
def zcn_db:=(dNil:Dec Unit (List SB))
def zcn_c:CS:=mkC zcn_da zcn_db (fun x y=>zcn_s x.1 x.2.1 x.2.2.1 x.2.2.2.1) (fun x y r=>.c (.agg [.vI r.at_,.own 0,.vS r.s,.vI r.code,.vI r.bad])) fun x y r=>[.row .node 34 r.l]
theorem zcn_val:qAl Tryz.prog 44 zcn_c:=qAm zcn_chk 10 zcn_Gok 0 (fun x=>Nat.le_of_ble_eq_true rfl) (fun y=>rfl) zcn_subs fun x y=>by
 simp only [zcn_s,-eq_self,qAd,qAf,obA,obS,slL,slR,qAc];kernel_rfl
def zcn_w:CQ:=qBr [] zcn_c
theorem zcn_ok:qAg Tryz.prog 44 zcn_w:=qBc zcn_val
def zct_da:=(qAb (dVC (dCO dS)) (qAb (dVC (dCO dZ)) (qAb (dVC (dCO dZ)) dNil)))
def zct_db:=(dNil:Dec Unit (List SB))
def zct_cs (self:BA→Int→Int→Option qG0):CS:=mkC zct_da zct_db (fun x y=>self x.1 x.2.1 x.2.2.1) (fun x y r=>.c (.agg [.vI r.at_,.own 0,.vS r.s,.vI r.code,.vI r.bad])) fun x y r=>[.row .node 34 r.l]
def zct_ws (self:BA→Int→Int→Option qG0):CQ:=qBr [] (zct_cs self)
def zcm_q:IQ:=(.seq (rg 10 [oP 10 (.alloc 60 [.int .i64 0,.slice none 0 0,.string ⟨#[]⟩,.int .i64 0,.int .i64 0])]) (.seq (.seq (rg 15 [oM 14 t2,oP 15 (.un .not t14)]) (.cond t15 (.seq (rg 0 [oM 16 t0,oM 17 t1,oM 18 t4,oP 19 (.call 23 [t16,t17,t18]),oN (.store 5 t10 t19)]) (.canon [(10,some 1,.node,34)] [10] .ret)) .skip)) (.seq (.seq (rg 23 [oM 20 t0,oM 21 t1,oP 22 (.call 39 [t20,t21]),oP 23 (.bi .neq t22 (vI 34))]) (.cond t23 (.seq (rg 0 [oM 24 t1,oP 25 (.call 40 [(vI 31),t24]),oN (.store 5 t10 t25)]) (.canon [(10,some 1,.node,34)] [10] .ret)) .skip)) (.seq (rg 0 [oM 26 t0,oM 27 t1,oP 28 (.bi .add t27 (vI 1)),oP 29 (.call 42 [t26,t28]),oP 11 (.alloc 60 [.int .i64 0,.slice none 0 0,.string ⟨#[]⟩,.int .i64 0,.int .i64 0]),oN (.store 5 t11 t29)]) (.seq (.seq (rg 32 [oP 30 (.faddr 3 t11),oP 31 (.load none t30),oP 32 (.bi .neq t31 (vI 0))]) (.cond t32 (.seq (rg 0 [oP 33 (.load (some 5) t11),oN (.store 5 t10 t33)]) (.canon [(10,some 1,.node,34)] [10] .ret)) .skip)) (.seq (.seq (rg 37 [oM 34 t3,oP 35 (.faddr 2 t11),oP 36 (.load none t35),oP 37 (.call 64 [t34,t36])]) (.cond t37 (.seq (rg 0 [oM 38 t1,oP 39 (.call 40 [(vI 34),t38]),oN (.store 5 t10 t39)]) (.canon [(10,some 1,.node,34)] [10] .ret)) .skip)) (.seq (rg 12 [oM 40 t0,oP 41 (.faddr 0 t11),oP 42 (.load none t41),oP 43 (.call 24 [t40,t42]),oM 12 t43]) (.seq (.seq (rg 47 [oM 44 t0,oM 45 t12,oP 46 (.call 39 [t44,t45]),oP 47 (.bi .neq t46 (vI 58))]) (.cond t47 (.seq (rg 0 [oM 48 t12,oP 49 (.call 40 [(vI 31),t48]),oN (.store 5 t10 t49)]) (.canon [(10,some 1,.node,34)] [10] .ret)) .skip)) (.seq (rg 0 [oM 50 t0,oM 51 t0,oM 52 t12,oP 53 (.bi .add t52 (vI 1)),oP 54 (.call 24 [t51,t53]),oM 55 t4,oP 56 (.call 23 [t50,t54,t55]),oP 13 (.alloc 60 [.int .i64 0,.slice none 0 0,.string ⟨#[]⟩,.int .i64 0,.int .i64 0]),oN (.store 5 t13 t56)]) (.seq (.seq (rg 59 [oP 57 (.faddr 3 t13),oP 58 (.load none t57),oP 59 (.bi .eql t58 (vI 0))]) (.cond t59 (.seq (rg 0 [oP 60 (.faddr 1 t13),oP 61 (.load none t60),oP 62 (.faddr 2 t11),oP 63 (.load none t62),oP 64 (.iaddr 6 t61 (vI 0)),oP 65 (.faddr 1 t64),oN (.store 1 t65 t63)]) (rg 0 [oP 66 (.faddr 2 t11),oP 67 (.load none t66),oP 68 (.faddr 2 t13),oN (.store 1 t68 t67)])) .skip)) (.seq (rg 0 [oP 69 (.load (some 5) t13),oN (.store 5 t10 t69)]) (.canon [(10,some 1,.node,34)] [10] .ret))))))))))))
theorem zcm_chk:chk Tryz.prog 54 []=some (zcm_q.erase,[.cell 10 (some 5)],70):=by kernel_rfl
def zcm_t (self:BA→Int→Int→Option qG0) (t:BA) (at_:Int) (object:Bool) (names:(List BA)) (open_:Int):Option qG0 :=
 bif (!object) then (
  (self t at_ open_).bind fun r1 =>
  some r1)
 else (
  (qDi t at_).bind fun r2 =>
  bif (!decide (r2=(34:Int))) then (
   (qEh (31:Int) at_).bind fun r3 =>
   some r3)
  else (
   gd (qAe (at_+(1:Int))) <|
   (zcp_s t (at_+(1:Int))).bind fun r4 =>
   bif (!decide (r4.code=(0:Int))) then (
    some r4)
   else (
    (zce_s names r4.s).bind fun r5 =>
    bif r5 then (
     (qEh (34:Int) at_).bind fun r6 =>
     some r6)
    else (
     (zcs_s t r4.at_).bind fun r7 =>
     (qDi t r7).bind fun r8 =>
     bif (!decide (r8=(58:Int))) then (
      (qEh (31:Int) r7).bind fun r9 =>
      some r9)
     else (
      gd (qAe (r7+(1:Int))) <|
      (zcs_s t (r7+(1:Int))).bind fun r10 =>
      (self t r10 open_).bind fun r11 =>
      bif decide (r11.code=(0:Int)) then (
       gd (0≤(0:Int)∧(0:Int)<r11.l.length) <|
       gd ((Int.toNat (0:Int))<r11.l.length) <|
       gd ((Int.toNat (0:Int))<r11.l.length) <|
       some {r11 with l:=(r11.l.set (Int.toNat (0:Int)) (⟨(r11.l.getD (Int.toNat (0:Int)) (ET.dft .node)).kind,r4.s,(r11.l.getD (Int.toNat (0:Int)) (ET.dft .node)).text,(r11.l.getD (Int.toNat (0:Int)) (ET.dft .node)).whole,(r11.l.getD (Int.toNat (0:Int)) (ET.dft .node)).int,(r11.l.getD (Int.toNat (0:Int)) (ET.dft .node)).kids⟩:Eng.Node)),s:=r4.s:qG0})
      else (
       some r11))))))
def zcm_G (self:BA→Int→Int→Option qG0):Nat→Option CQ:=tblQ [(23,zct_ws self),(39,zcg_w),(40,zcj_w),(42,zcp_w),(64,zce_w),(24,zcs_w)]
theorem zcm_Gok (self:BA→Int→Int→Option qG0) (hself:qAg Tryz.prog 23 (zct_ws self)):∀f C,(zcm_G self) f=some C→qAg Tryz.prog f C:=qAj ⟨hself,zcg_ok,zcj_ok,zcp_ok,zce_ok,zcs_ok,tV⟩
def zcm_L (self:BA→Int→Int→Option qG0):Nat→SubQ:=tblL []
theorem zcm_subs (self:BA→Int→Int→Option qG0):qAn (zcm_L self) (zcm_G self) 1 14 70 zcm_q:=qAk (show qAq (zcm_L self) (zcm_G self) 1 14 70 [] from tV)
def zcm_da:=(qAb (dVC (dCO dS)) (qAb (dVC (dCO dZ)) (qAb (dVC (dCO dB)) (qAb (dVC (dCO (dO 0))) (qAb (dVC (dCO dZ)) dNil)))))
def zcm_db:=(qAb (qBi .str) dNil)
def zcm_ct (self:BA→Int→Int→Option qG0):CS:=mkC zcm_da zcm_db (fun x y=>zcm_t self x.1 x.2.1 x.2.2.1 y.1 x.2.2.2.2.1) (fun x y r=>.c (.agg [.vI r.at_,.own 1,.vS r.s,.vI r.code,.vI r.bad])) fun x y r=>[.view .str y.1,.row .node 34 r.l]
theorem zcm_val_t (self:BA→Int→Int→Option qG0) (hself:qAg Tryz.prog 23 (zct_ws self)):qAl Tryz.prog 54 (zcm_ct self):=qAm zcm_chk 14 (zcm_Gok self hself) 1 (fun x=>Nat.le_of_ble_eq_true rfl) (fun y=>rfl) (zcm_subs self) fun x y=>by
 simp only [zcm_t,-eq_self,qAd,qAf,obA,obS,slL,slR,qAc];kernel_rfl
def zcm_wt (self:BA→Int→Int→Option qG0):CQ:=qBm [(3,none,some (.str,9))] (qBr [false] (zcm_ct self))
theorem zcm_okt (self:BA→Int→Int→Option qG0) (hself:qAg Tryz.prog 23 (zct_ws self)):qAg Tryz.prog 54 (zcm_wt self):=qAu (zcm_val_t self hself)
def zcq_b1:IQ:=(.loop [0,1,2,3,8,10,11,12] (.block 1 (.seq (rg 0 [oM 31 t0,oM 32 t1,oM 33 t2,oM 34 t12,oM 35 t3,oP 36 (.call 54 [t31,t32,t33,t34,t35]),oP 13 (.alloc 60 [.int .i64 0,.slice none 0 0,.string ⟨#[]⟩,.int .i64 0,.int .i64 0]),oN (.store 5 t13 t36)]) (.seq (.seq (rg 39 [oP 37 (.faddr 3 t13),oP 38 (.load none t37),oP 39 (.bi .neq t38 (vI 0))]) (.cond t39 (.seq (rg 0 [oP 40 (.load (some 5) t13),oN (.store 5 t8 t40)]) (.canon [(8,some 1,.node,34)] [8] .ret)) .skip)) (.seq (rg 12 [oM 41 t12,oP 42 (.faddr 2 t13),oP 43 (.load none t42),oP 44 (.bslice 9 1 1 [.string ⟨#[]⟩] [(0,t43)]),oP 45 (.append 9 1 16 [.string ⟨#[]⟩] t41 t44),oM 12 t45]) (.seq (rg 11 [oM 46 t11,oP 47 (.faddr 1 t13),oP 48 (.load none t47),oP 49 (.append 34 6 64 [.int .i64 0,.string ⟨#[]⟩,.string ⟨#[]⟩,.bool false,.int .i64 0,.int .i64 0] t46 t48),oM 11 t49]) (.seq (rg 0 [oM 50 t11,oP 51 (.iaddr 6 t50 (vI 0)),oP 52 (.faddr 5 t51),oP 53 (.load none t52),oP 54 (.bi .add t53 (vI 1)),oP 55 (.iaddr 6 t50 (vI 0)),oP 56 (.faddr 5 t55),oN (.store 1 t56 t54)]) (.seq (rg 1 [oM 57 t0,oP 58 (.faddr 0 t13),oP 59 (.load none t58),oP 60 (.call 24 [t57,t59]),oM 1 t60]) (.seq (rg 63 [oM 61 t0,oM 62 t1,oP 63 (.call 39 [t61,t62])]) (.block 2 (.seq (rg 66 [oM 67 t10,oP 68 (.bi .eql t63 t67),oM 66 t68]) (.cond t66 (.seq (rg 0 [oM 69 t1,oP 70 (.bi .add t69 (vI 1)),oM 71 t11,oP 72 (.build [.int .i64 0,.slice none 0 0,.string ⟨#[]⟩,.int .i64 0,.int .i64 0] [(0,1,t70),(1,1,t71)]),oN (.store 5 t8 t72)]) (.canon [(8,some 1,.node,34)] [8] .ret)) (.seq (rg 73 [oP 74 (.bi .eql t63 (vI 44)),oM 73 t74]) (.cond t73 (rg 1 [oM 75 t0,oM 76 t1,oP 77 (.bi .add t76 (vI 1)),oP 78 (.call 24 [t75,t77]),oM 1 t78]) (.seq (rg 0 [oM 64 t1,oP 65 (.call 40 [(vI 31),t64]),oN (.store 5 t8 t65)]) (.canon [(8,some 1,.node,34)] [8] .ret))))))))))))))))
def zcq_b0:IQ:=(.seq (rg 11 [oM 15 t9,oP 16 (.build [.int .i64 0,.string ⟨#[]⟩,.string ⟨#[]⟩,.bool false,.int .i64 0,.int .i64 0] [(0,1,t15)]),oP 17 (.bslice 34 6 1 [.int .i64 0,.string ⟨#[]⟩,.string ⟨#[]⟩,.bool false,.int .i64 0,.int .i64 0] [(0,t16)]),oM 11 t17]) (.seq (rg 12 [oP 12 (.mv (.v (.slice none 0 0)))]) (.seq (rg 1 [oM 18 t0,oM 19 t1,oP 20 (.bi .add t19 (vI 1)),oP 21 (.call 24 [t18,t20]),oM 1 t21]) (.seq (.seq (rg 26 [oM 22 t0,oM 23 t1,oP 24 (.call 39 [t22,t23]),oM 25 t10,oP 26 (.bi .eql t24 t25)]) (.cond t26 (.seq (rg 0 [oM 27 t1,oP 28 (.bi .add t27 (vI 1)),oM 29 t11,oP 30 (.build [.int .i64 0,.slice none 0 0,.string ⟨#[]⟩,.int .i64 0,.int .i64 0] [(0,1,t28),(1,1,t29)]),oN (.store 5 t8 t30)]) (.canon [(8,some 1,.node,34)] [8] .ret)) .skip)) (.block 0 (.canon [(12,none,.str,9)] [0,1,2,3,8,10,11,12] (.sub 1 zcq_b1)))))))
def zcq_q:IQ:=(.seq (rg 8 [oP 8 (.alloc 60 [.int .i64 0,.slice none 0 0,.string ⟨#[]⟩,.int .i64 0,.int .i64 0])]) (.seq (rg 10 [oP 9 (.mv (vI 6)),oP 10 (.mv (vI 93))]) (.seq (.seq (rg 14 [oM 14 t2]) (.cond t14 (rg 10 [oP 9 (.mv (vI 7)),oP 10 (.mv (vI 125))]) .skip)) (.cn [0,1,2,3,8,9,10] (.sub 0 zcq_b0)))))
theorem zcq_chk:chk Tryz.prog 41 []=some (zcq_q.erase,[.cell 8 (some 5)],79):=by kernel_rfl
def qCp (self:BA→Int→Int→Option qG0) (t:BA) (at_:Int) (object:Bool) (open_ last:Int) (out:List Eng.Node) (names:List BA):Option ((Int × (List Eng.Node) × (List BA)) ⊕ (Int × BA × Int × Int × (List Eng.Node))) :=
 (zcm_t self t at_ object names open_).bind fun r27 =>
 bif (!decide (r27.code=(0:Int))) then (
  some (.inr (r27.at_,r27.s,r27.code,r27.bad,r27.l)))
 else (
  gd (names.length+([r27.s]:List BA).length≤9223372036854775807∧(names.length+([r27.s]:List BA).length)*16≤140737488355328) <|
  gd (out.length+r27.l.length≤9223372036854775807∧(out.length+r27.l.length)*64≤140737488355328) <|
  gd (0≤(0:Int)∧(0:Int)<(out++r27.l).length) <|
  gd ((Int.toNat (0:Int))<(out++r27.l).length) <|
  gd ((Int.toNat (0:Int))<(out++r27.l).length) <|
  gd (qAe ((((out++r27.l).getD (Int.toNat (0:Int)) (ET.dft .node)).kids)+(1:Int))) <|
  gd (0≤(0:Int)∧(0:Int)<(out++r27.l).length) <|
  gd ((Int.toNat (0:Int))<(out++r27.l).length) <|
  gd ((Int.toNat (0:Int))<(out++r27.l).length) <|
  (zcs_s t r27.at_).bind fun r28 =>
  (qDi t r28).bind fun r29 =>
  bif decide (r29=last) then (
   gd (qAe (r28+(1:Int))) <|
   some (.inr ((r28+(1:Int)),(⟨#[]⟩:BA),(0:Int),(0:Int),((out++r27.l).set (Int.toNat (0:Int)) (⟨((out++r27.l).getD (Int.toNat (0:Int)) (ET.dft .node)).kind,((out++r27.l).getD (Int.toNat (0:Int)) (ET.dft .node)).key,((out++r27.l).getD (Int.toNat (0:Int)) (ET.dft .node)).text,((out++r27.l).getD (Int.toNat (0:Int)) (ET.dft .node)).whole,((out++r27.l).getD (Int.toNat (0:Int)) (ET.dft .node)).int,((((out++r27.l).getD (Int.toNat (0:Int)) (ET.dft .node)).kids)+(1:Int))⟩:Eng.Node)))))
  else (
   bif decide (r29=(44:Int)) then (
    gd (qAe (r28+(1:Int))) <|
    (zcs_s t (r28+(1:Int))).bind fun r30 =>
    some (.inl (r30,((out++r27.l).set (Int.toNat (0:Int)) (⟨((out++r27.l).getD (Int.toNat (0:Int)) (ET.dft .node)).kind,((out++r27.l).getD (Int.toNat (0:Int)) (ET.dft .node)).key,((out++r27.l).getD (Int.toNat (0:Int)) (ET.dft .node)).text,((out++r27.l).getD (Int.toNat (0:Int)) (ET.dft .node)).whole,((out++r27.l).getD (Int.toNat (0:Int)) (ET.dft .node)).int,((((out++r27.l).getD (Int.toNat (0:Int)) (ET.dft .node)).kids)+(1:Int))⟩:Eng.Node)),(names++[r27.s]))))
   else (
    (qEh (31:Int) r28).bind fun r31 =>
    some (.inr (r31.at_,r31.s,r31.code,r31.bad,r31.l)))))
def zcq_p1 (self:BA→Int→Int→Option qG0) (t:BA) (at_:Int) (object:Bool) (open_ last:Int) (out:List Eng.Node) (names:List BA):Option (Int × BA × Int × Int × (List Eng.Node)) :=
 qA0 (fun x:(Int × (List Eng.Node) × (List BA))=>qCp self t x.1 object open_ last x.2.1 x.2.2) (at_,out,names)
def zcq_p0 (self:BA→Int→Int→Option qG0) (t:BA) (at_:Int) (object:Bool) (open_ kind last:Int):Option (Int × BA × Int × Int × (List Eng.Node)) :=
 gd (qAe (at_+(1:Int))) <|
 (zcs_s t (at_+(1:Int))).bind fun r25 =>
 (qDi t r25).bind fun r26 =>
 bif decide (r26=last) then (
  gd (qAe (r25+(1:Int))) <|
  some ((r25+(1:Int)),(⟨#[]⟩:BA),(0:Int),(0:Int),[(⟨kind,(⟨#[]⟩:BA),(⟨#[]⟩:BA),false,(0:Int),(0:Int)⟩:Eng.Node)]))
 else (
  (zcq_p1 self t r25 object open_ last [(⟨kind,(⟨#[]⟩:BA),(⟨#[]⟩:BA),false,(0:Int),(0:Int)⟩:Eng.Node)] []).bind fun o32 =>
  some (o32.1,o32.2.1,o32.2.2.1,o32.2.2.2.1,o32.2.2.2.2))
def zcq_t (self:BA→Int→Int→Option qG0) (t:BA) (at_:Int) (object:Bool) (open_:Int):Option qG0 :=
 bif object then (
  (zcq_p0 self t at_ object open_ (7:Int) (125:Int)).bind fun o33 =>
  some (⟨o33.1,o33.2.2.2.2,o33.2.1,o33.2.2.1,o33.2.2.2.1⟩:qG0))
 else (
  (zcq_p0 self t at_ object open_ (6:Int) (93:Int)).bind fun o34 =>
  some (⟨o34.1,o34.2.2.2.2,o34.2.1,o34.2.2.1,o34.2.2.2.1⟩:qG0))
def zcq_G (self:BA→Int→Int→Option qG0):Nat→Option CQ:=tblQ [(24,zcs_w),(39,zcg_w),(54,zcm_wt self),(40,zcj_w)]
theorem zcq_Gok (self:BA→Int→Int→Option qG0) (hself:qAg Tryz.prog 23 (zct_ws self)):∀f C,(zcq_G self) f=some C→qAg Tryz.prog f C:=qAj ⟨zcs_ok,zcg_ok,zcm_okt self hself,zcj_ok,tV⟩
def zcq_d1:=(dQS (qAb (dSO 0 dS) (qAb (dSO 1 dZ) (qAb (dSO 2 dB) (qAb (dSO 3 dZ) (qAb (dSO 8 (dH 0 0)) (qAb (dSO 10 dZ) (qAb (dSO 11 (dO 1)) (qAb (dSO 12 (dO 2)) dNil)))))))) (qAb zDJQ1 (qAb (dRow .node 34) (qAb (dRow .str 9) dNil))))
def zcq_l1 (self:BA→Int→Int→Option qG0):SubQ:=mkL zcq_d1 (fun x=>zcq_p1 self x.1.1 x.1.2.1 x.1.2.2.1 x.1.2.2.2.1 x.1.2.2.2.2.2.1 x.2.2.1 x.2.2.2.1) fun x r R kn kx kr=>kr ⟨[sL 8 (.hd 0 0)],[],[.cells 60 [.vI r.1,.own 1,.vS r.2.1,.vI r.2.2.1,.vI r.2.2.2.1],.row .node 34 r.2.2.2.2]⟩
def zcq_d0:=(dQS (qAb (dSO 0 dS) (qAb (dSO 1 dZ) (qAb (dSO 2 dB) (qAb (dSO 3 dZ) (qAb (dSO 8 (dH 0 0)) (qAb (dSO 9 dZ) (qAb (dSO 10 dZ) dNil))))))) (qAb zDJQ1 dNil))
def zcq_l0 (self:BA→Int→Int→Option qG0):SubQ:=mkL zcq_d0 (fun x=>zcq_p0 self x.1.1 x.1.2.1 x.1.2.2.1 x.1.2.2.2.1 x.1.2.2.2.2.2.1 x.1.2.2.2.2.2.2.1) fun x r R kn kx kr=>kr ⟨[sL 8 (.hd 0 0)],[],[.cells 60 [.vI r.1,.own 1,.vS r.2.1,.vI r.2.2.1,.vI r.2.2.2.1],.row .node 34 r.2.2.2.2]⟩
def zcq_L (self:BA→Int→Int→Option qG0):Nat→SubQ:=tblL [(1,zcq_l1 self),(0,zcq_l0 self)]
theorem zcq_sub1 (self:BA→Int→Int→Option qG0):qA4 (zcq_L self) (zcq_G self) 0 64 79 1 zcq_b1:=qAr (show (zcq_L self) 1=(zcq_l1 self) from by kernel_rfl) fun x R kn kx kr=>qAo (step:=fun y=>qCp self x.1.1 y.1 x.1.2.2.1 x.1.2.2.2.1 x.1.2.2.2.2.2.1 y.2.1 y.2.2) (enc:=fun (y:Int × (List Eng.Node) × (List BA))=>zcq_d1.e ((x.1.1,y.1,x.1.2.2),(x.2.1,y.2.1,y.2.2,x.2.2.2.2))) (fun y=>by kernel_rfl) (fun y ki=>by simp only [qCp,-eq_self,qAd,qAf,obA,obS,slL,slR,qAc]; kernel_rfl) (x.1.2.1,x.2.2.1,x.2.2.2.1)
theorem zcq_sub0 (self:BA→Int→Int→Option qG0):qA4 (zcq_L self) (zcq_G self) 0 64 79 0 zcq_b0:=qAr (show (zcq_L self) 0=(zcq_l0 self) from by kernel_rfl) fun x R kn kx kr=>by
 simp only [zcq_p0,-eq_self,qAd,qAf,obA,obS,slL,slR,qAc];kernel_rfl
theorem zcq_subs (self:BA→Int→Int→Option qG0):qAn (zcq_L self) (zcq_G self) 0 64 79 zcq_q:=qAk (show qAq (zcq_L self) (zcq_G self) 0 64 79 [(0,zcq_b0),(1,zcq_b1)] from ⟨(zcq_sub0 self),(zcq_sub1 self),tV⟩)
def zcq_da:=(qAb (dVC (dCO dS)) (qAb (dVC (dCO dZ)) (qAb (dVC (dCO dB)) (qAb (dVC (dCO dZ)) dNil))))
def zcq_db:=(dNil:Dec Unit (List SB))
def zcq_ct (self:BA→Int→Int→Option qG0):CS:=mkC zcq_da zcq_db (fun x y=>zcq_t self x.1 x.2.1 x.2.2.1 x.2.2.2.1) (fun x y r=>.c (.agg [.vI r.at_,.own 0,.vS r.s,.vI r.code,.vI r.bad])) fun x y r=>[.row .node 34 r.l]
theorem zcq_val_t (self:BA→Int→Int→Option qG0) (hself:qAg Tryz.prog 23 (zct_ws self)):qAl Tryz.prog 41 (zcq_ct self):=qAm zcq_chk 64 (zcq_Gok self hself) 0 (fun x=>Nat.le_of_ble_eq_true rfl) (fun y=>rfl) (zcq_subs self) fun x y=>by
 simp only [zcq_t,-eq_self,qAd,qAf,obA,obS,slL,slR,qAc];kernel_rfl
def zcq_wt (self:BA→Int→Int→Option qG0):CQ:=qBr [] (zcq_ct self)
theorem zcq_okt (self:BA→Int→Int→Option qG0) (hself:qAg Tryz.prog 23 (zct_ws self)):qAg Tryz.prog 41 (zcq_wt self):=qBc (zcq_val_t self hself)
def zct_q:IQ:=(.seq (rg 6 [oP 6 (.alloc 60 [.int .i64 0,.slice none 0 0,.string ⟨#[]⟩,.int .i64 0,.int .i64 0])]) (.seq (rg 7 [oM 9 t0,oM 10 t1,oP 11 (.call 39 [t9,t10]),oM 7 t11]) (.seq (.block 0 (.seq (rg 12 [oM 13 t7,oP 14 (.bi .eql t13 (vI 91)),oM 15 t14,oE 16 (.mv t7) 15,oE 17 (.bi .eql t16 (vI 123)) 15,oP 18 (.pick t15 vT t17),oM 12 t18]) (.cond t12 (.seq (.seq (rg 20 [oM 19 t2,oP 20 (.bi .eql t19 (vI 32))]) (.cond t20 (.seq (rg 0 [oM 21 t1,oP 22 (.call 40 [(vI 11),t21]),oN (.store 5 t6 t22)]) (.canon [(6,some 1,.node,34)] [6] .ret)) .skip)) (.seq (rg 0 [oM 23 t0,oM 24 t1,oM 25 t7,oP 26 (.bi .eql t25 (vI 123)),oM 27 t2,oP 28 (.bi .add t27 (vI 1)),oP 29 (.call 41 [t23,t24,t26,t28]),oN (.store 5 t6 t29)]) (.canon [(6,some 1,.node,34)] [6] .ret))) (.seq (rg 30 [oM 31 t7,oP 32 (.bi .eql t31 (vI 34)),oM 30 t32]) (.cond t30 (.seq (rg 0 [oM 33 t0,oM 34 t1,oP 35 (.bi .add t34 (vI 1)),oP 36 (.call 42 [t33,t35]),oP 8 (.alloc 60 [.int .i64 0,.slice none 0 0,.string ⟨#[]⟩,.int .i64 0,.int .i64 0]),oN (.store 5 t8 t36)]) (.seq (.seq (rg 39 [oP 37 (.faddr 3 t8),oP 38 (.load none t37),oP 39 (.bi .eql t38 (vI 0))]) (.cond t39 (rg 0 [oP 40 (.faddr 2 t8),oP 41 (.load none t40),oP 42 (.build [.int .i64 0,.string ⟨#[]⟩,.string ⟨#[]⟩,.bool false,.int .i64 0,.int .i64 0] [(0,1,(vI 5)),(2,1,t41)]),oP 43 (.bslice 34 6 1 [.int .i64 0,.string ⟨#[]⟩,.string ⟨#[]⟩,.bool false,.int .i64 0,.int .i64 0] [(0,t42)]),oP 44 (.faddr 1 t8),oN (.store 1 t44 t43)]) .skip)) (.seq (rg 0 [oP 45 (.load (some 5) t8),oN (.store 5 t6 t45)]) (.canon [(6,some 1,.node,34)] [6] .ret)))) (.seq (rg 46 [oM 47 t7,oP 48 (.bi .eql t47 (vI 45)),oM 49 t48,oE 50 (.mv t7) 49,oE 51 (.bi .geq t50 (vI 48)) 49,oE 52 (.mv t51) 49,oF 53 (.mv t7) 52,oF 54 (.bi .leq t53 (vI 57)) 52,oE 55 (.pick t52 t54 vF) 49,oP 56 (.pick t49 vT t55),oM 46 t56]) (.cond t46 (.seq (rg 0 [oM 57 t0,oM 58 t1,oP 59 (.call 43 [t57,t58]),oN (.store 5 t6 t59)]) (.canon [(6,some 1,.node,34)] [6] .ret)) (.seq (rg 60 [oM 61 t7,oP 62 (.bi .eql t61 (vI 110)),oM 60 t62]) (.cond t60 (.seq (rg 0 [oM 63 t0,oM 64 t1,oP 65 (.call 44 [t63,t64,(.v (.string ⟨#[110,117,108,108]⟩)),(vI 1)]),oN (.store 5 t6 t65)]) (.canon [(6,some 1,.node,34)] [6] .ret)) (.seq (rg 66 [oM 67 t7,oP 68 (.bi .eql t67 (vI 102)),oM 66 t68]) (.cond t66 (.seq (rg 0 [oM 69 t0,oM 70 t1,oP 71 (.call 44 [t69,t70,(.v (.string ⟨#[102,97,108,115,101]⟩)),(vI 2)]),oN (.store 5 t6 t71)]) (.canon [(6,some 1,.node,34)] [6] .ret)) (.seq (rg 72 [oM 73 t7,oP 74 (.bi .eql t73 (vI 116)),oM 72 t74]) (.cond t72 (.seq (rg 0 [oM 75 t0,oM 76 t1,oP 77 (.call 44 [t75,t76,(.v (.string ⟨#[116,114,117,101]⟩)),(vI 3)]),oN (.store 5 t6 t77)]) (.canon [(6,some 1,.node,34)] [6] .ret)) .skip))))))))))))) (.seq (rg 0 [oM 78 t1,oP 79 (.call 40 [(vI 31),t78]),oN (.store 5 t6 t79)]) (.canon [(6,some 1,.node,34)] [6] .ret)))))
theorem zct_chk:chk Tryz.prog 23 []=some (zct_q.erase,[.cell 6 (some 5)],80):=by kernel_rfl
def zct_t (self:BA→Int→Int→Option qG0) (t:BA) (at_ open_:Int):Option qG0 :=
 (qDi t at_).bind fun r1 =>
 bif ((decide (r1=(91:Int))) || (decide (r1=(123:Int)))) then (
  bif decide (open_=(32:Int)) then (
   (qEh (11:Int) at_).bind fun r2 =>
   some r2)
  else (
   gd (qAe (open_+(1:Int))) <|
   (zcq_t self t at_ (decide (r1=(123:Int))) (open_+(1:Int))).bind fun r3 =>
   some r3))
 else (
  bif decide (r1=(34:Int)) then (
   gd (qAe (at_+(1:Int))) <|
   (zcp_s t (at_+(1:Int))).bind fun r4 =>
   bif decide (r4.code=(0:Int)) then (
    some {r4 with l:=[(⟨(5:Int),(⟨#[]⟩:BA),r4.s,false,(0:Int),(0:Int)⟩:Eng.Node)]:qG0})
   else (
    some r4))
  else (
   bif ((decide (r1=(45:Int))) || ((decide ((48:Int)≤r1)) && (decide (r1≤(57:Int))))) then (
    (zco_s t at_).bind fun r5 =>
    some r5)
   else (
    bif decide (r1=(110:Int)) then (
     (zcn_s t at_ (⟨#[110,117,108,108]⟩:BA) (1:Int)).bind fun r6 =>
     some r6)
    else (
     bif decide (r1=(102:Int)) then (
      (zcn_s t at_ (⟨#[102,97,108,115,101]⟩:BA) (2:Int)).bind fun r7 =>
      some r7)
     else (
      bif decide (r1=(116:Int)) then (
       (zcn_s t at_ (⟨#[116,114,117,101]⟩:BA) (3:Int)).bind fun r8 =>
       some r8)
      else (
       (qEh (31:Int) at_).bind fun r9 =>
       some r9))))))
def zct_G (self:BA→Int→Int→Option qG0):Nat→Option CQ:=tblQ [(39,zcg_w),(40,zcj_w),(41,zcq_wt self),(42,zcp_w),(43,zco_w),(44,zcn_w)]
theorem zct_Gok (self:BA→Int→Int→Option qG0) (hself:qAg Tryz.prog 23 (zct_ws self)):∀f C,(zct_G self) f=some C→qAg Tryz.prog f C:=qAj ⟨zcg_ok,zcj_ok,zcq_okt self hself,zcp_ok,zco_ok,zcn_ok,tV⟩
def zct_L (self:BA→Int→Int→Option qG0):Nat→SubQ:=tblL []
theorem zct_subs (self:BA→Int→Int→Option qG0):qAn (zct_L self) (zct_G self) 0 9 80 zct_q:=qAk (show qAq (zct_L self) (zct_G self) 0 9 80 [] from tV)
theorem zct_val_t (self:BA→Int→Int→Option qG0) (hself:qAg Tryz.prog 23 (zct_ws self)):qAl Tryz.prog 23 (zct_cs (zct_t self)):=qAm zct_chk 9 (zct_Gok self hself) 0 (fun x=>Nat.le_of_ble_eq_true rfl) (fun y=>rfl) (zct_subs self) fun x y=>by
 simp only [zct_t,-eq_self,qAd,qAf,obA,obS,slL,slR,qAc];kernel_rfl
def zct_n:Nat→BA→Int→Int→Option qG0
 | 0=>fun _ _ _=>none
 | n+1=>zct_t (zct_n n)
def zct_s (t:BA) (at_ open_:Int):Option qG0:=evt fun n=>zct_n n t at_ open_
theorem zct_valn:∀n,qAl Tryz.prog 23 (zct_cs (zct_n n))
 | 0=>qAl.zero fun args hp R k=>by
  show ((Dec.d zct_da args).bind fun x=>(Dec.d zct_db hp).bind fun y=>none)=none;cases Dec.d zct_da args with
  | none=>rfl
  | some x=>cases Dec.d zct_db hp <;> rfl
 | n+1=>zct_val_t (zct_n n) (qBc (zct_valn n))
theorem zct_val:qAl Tryz.prog 23 (zct_cs zct_s):=qAl.evt zct_valn (fun args hp R k=>by
  show ((Dec.d zct_da args).bind fun x=>(Dec.d zct_db hp).bind fun y=>_)=(((Dec.d zct_da args).bind fun x=>(Dec.d zct_db hp).bind fun y=>_):Option (SV × List SB)).bind _;cases Dec.d zct_da args with
  | none=>rfl
  | some x =>
   cases Dec.d zct_db hp with
   | none=>rfl
   | some y=>simp only [obS,Option.bind_assoc]) fun args hp v hp' h=>by
  obtain ⟨x,h1,h2⟩:=Option.bind_eq_some_iff.1 h;obtain ⟨y,h3,h4⟩:=Option.bind_eq_some_iff.1 h2;obtain ⟨r,h5,h6⟩:=Option.bind_eq_some_iff.1 h4;obtain ⟨n,h7⟩:=evt_some h5;refine ⟨n,?_⟩;show ((Dec.d zct_da args).bind fun x=>(Dec.d zct_db hp).bind fun y=>_)=_;rw [h1];simp only [obS];rw [h3];simp only [obS];exact (congrArg (fun z=>Option.bind z _) h7).trans h6
def zct_w:CQ:=zct_ws zct_s
theorem zct_ok:qAg Tryz.prog 23 zct_w:=qBc zct_val
def zca_q:IQ:=(.seq (rg 4 [oP 2 (.mv (.v (.slice none 0 0))),oP 3 (.mv (vI 0)),oP 4 (.mv (vI 0))]) (.seq (.seq (rg 9 [oM 7 t0,oP 8 (.lenS t7),oP 9 (.bi .gtr t8 (vI 262144))]) (.cond t9 (.seq (rg 4 [oP 2 (.mv (.v (.slice none 0 0))),oP 3 (.mv (vI 10)),oP 4 (.mv (vI 0))]) (.canon [(2,none,.node,34)] [2,3,4] .ret)) .skip)) (.seq (rg 0 [oM 10 t0,oM 11 t0,oP 12 (.call 24 [t11,(vI 0)]),oP 13 (.call 23 [t10,t12,(vI 0)]),oP 5 (.alloc 60 [.int .i64 0,.slice none 0 0,.string ⟨#[]⟩,.int .i64 0,.int .i64 0]),oN (.store 5 t5 t13)]) (.seq (.seq (rg 16 [oP 14 (.faddr 3 t5),oP 15 (.load none t14),oP 16 (.bi .neq t15 (vI 0))]) (.cond t16 (.seq (.reg 4 (some [0,1,2,3,4,5,6]) [oP 17 (.faddr 3 t5),oP 18 (.load none t17),oP 19 (.faddr 4 t5),oP 20 (.load none t19),oP 2 (.mv (.v (.slice none 0 0))),oM 3 t18,oM 4 t20]) (.canon [(2,none,.node,34)] [2,3,4] .ret)) .skip)) (.seq (rg 6 [oM 21 t0,oP 22 (.faddr 0 t5),oP 23 (.load none t22),oP 24 (.call 24 [t21,t23]),oM 6 t24]) (.seq (.seq (rg 28 [oM 25 t6,oM 26 t0,oP 27 (.lenS t26),oP 28 (.bi .lss t25 t27)]) (.cond t28 (.seq (rg 4 [oM 29 t6,oP 2 (.mv (.v (.slice none 0 0))),oP 3 (.mv (vI 31)),oM 4 t29]) (.canon [(2,none,.node,34)] [2,3,4] .ret)) .skip)) (.seq (rg 4 [oP 30 (.faddr 1 t5),oP 31 (.load none t30),oM 2 t31,oP 3 (.mv (vI 0)),oP 4 (.mv (vI 0))]) (.canon [(2,none,.node,34)] [2,3,4] .ret))))))))
theorem zca_chk:chk Tryz.prog 11 []=some (zca_q.erase,[.tmp 2,.tmp 3,.tmp 4],32):=by kernel_rfl
def zca_s (t:BA):Option ((List Eng.Node) × Int × Int) :=
 bif decide ((262144:Int)<(t.size:Int)) then (
  some ([],(10:Int),(0:Int)))
 else (
  (zcs_s t (0:Int)).bind fun r1 =>
  (zct_s t r1 (0:Int)).bind fun r2 =>
  bif (!decide (r2.code=(0:Int))) then (
   some ([],r2.code,r2.bad))
  else (
   (zcs_s t r2.at_).bind fun r3 =>
   bif decide (r3<(t.size:Int)) then (
    some ([],(31:Int),r3))
   else (
    some (r2.l,(0:Int),(0:Int)))))
def zca_G:Nat→Option CQ:=tblQ [(24,zcs_w),(23,zct_w)]
theorem zca_Gok:∀f C,zca_G f=some C→qAg Tryz.prog f C:=qAj ⟨zcs_ok,zct_ok,tV⟩
def zca_L:Nat→SubQ:=tblL []
theorem zca_subs:qAn zca_L zca_G 0 7 32 zca_q:=qAk (show qAq zca_L zca_G 0 7 32 [] from tV)
def zca_da:=(qAb (dVC (dCO dS)) dNil)
def zca_db:=(dNil:Dec Unit (List SB))
def zca_c:CS:=mkC zca_da zca_db (fun x y=>zca_s x.1) (fun x y r=>.tup [.o (.own 0),.o (.vI r.2.1),.o (.vI r.2.2)]) fun x y r=>[.row .node 34 r.1]
theorem zca_val:qAl Tryz.prog 11 zca_c:=qAm zca_chk 7 zca_Gok 0 (fun x=>Nat.le_of_ble_eq_true rfl) (fun y=>rfl) zca_subs fun x y=>by
 simp only [zca_s,-eq_self,qAd,qAf,obA,obS,slL,slR,qAc];kernel_rfl
def zca_w:CQ:=qBr [] zca_c
theorem zca_ok:qAg Tryz.prog 11 zca_w:=qBc zca_val
end
end Go.Proofs.YtnifdcmeffnpaaaGreatDoor
