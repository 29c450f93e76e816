/-
  The document's shape of a list of nodes: it is always told, and where it is good the list is a tree. No program.
-/
import Derived.Test.YticplgndjpljiaaDoorEngO
import Derived.Test.YticplgndjpljiaaDoorProg
import Derived.Test.YticplgndjpljiaaDoorGC
import Derived.Test.YticplgndjpljiaaDoorEngH
import Derived.Test.YticplgndjpljiaaDoorPDecRef
namespace Go.Proofs.YticplgndjpljiaaDoor
open Go.Eng
set_option linter.unusedVariables false
set_option linter.unusedSimpArgs false
set_option maxRecDepth 100000
noncomputable section
structure qHb where
 at_:Int
 l:(List Eng.Node)
 s:BA
 code:Int
 bad:Int
def zbv_q:IQ:=(.seq (rg 4 [oP 2 (.mv (vI 0)),oP 3 (.mv (vI 0)),oP 4 (.mv (vI 0))]) (.seq (.block 0 (.seq (rg 5 [oM 6 t0,oP 7 (.bi .lss t6 (vI 194)),oM 8 t7,oE 9 (.mv t0) 8,oE 10 (.bi .gtr t9 (vI 244)) 8,oP 11 (.pick t8 vT t10),oM 5 t11]) (.cond t5 (.seq (rg 4 [oP 2 (.mv (.v (.int .i64 (-1)))),oP 3 (.mv (vI 0)),oP 4 (.mv (vI 0))]) (.cn [2,3,4] .ret)) (.seq (rg 12 [oM 13 t0,oP 14 (.bi .lss t13 (vI 224)),oM 12 t14]) (.cond t12 (.seq (rg 4 [oP 2 (.mv (vI 1)),oP 3 (.mv (vI 128)),oP 4 (.mv (vI 191))]) (.cn [2,3,4] .ret)) (.seq (rg 15 [oM 16 t0,oP 17 (.bi .eql t16 (vI 224)),oM 15 t17]) (.cond t15 (.seq (rg 4 [oP 2 (.mv (vI 2)),oP 3 (.mv (vI 160)),oP 4 (.mv (vI 191))]) (.cn [2,3,4] .ret)) (.seq (rg 18 [oM 19 t0,oP 20 (.bi .eql t19 (vI 237)),oM 18 t20]) (.cond t18 (.seq (rg 4 [oP 2 (.mv (vI 2)),oP 3 (.mv (vI 128)),oP 4 (.mv (vI 159))]) (.cn [2,3,4] .ret)) (.seq (rg 21 [oM 22 t0,oP 23 (.bi .lss t22 (vI 240)),oM 21 t23]) (.cond t21 (.seq (rg 4 [oP 2 (.mv (vI 2)),oP 3 (.mv (vI 128)),oP 4 (.mv (vI 191))]) (.cn [2,3,4] .ret)) (.seq (rg 24 [oM 25 t0,oP 26 (.bi .eql t25 (vI 240)),oM 24 t26]) (.cond t24 (.seq (rg 4 [oP 2 (.mv (vI 3)),oP 3 (.mv (vI 144)),oP 4 (.mv (vI 191))]) (.cn [2,3,4] .ret)) (.seq (rg 27 [oM 28 t0,oP 29 (.bi .eql t28 (vI 244)),oM 27 t29]) (.cond t27 (.seq (rg 4 [oP 2 (.mv (vI 3)),oP 3 (.mv (vI 128)),oP 4 (.mv (vI 143))]) (.cn [2,3,4] .ret)) .skip))))))))))))))) (.seq (rg 4 [oP 2 (.mv (vI 3)),oP 3 (.mv (vI 128)),oP 4 (.mv (vI 191))]) (.cn [2,3,4] .ret))))
theorem zbv_chk:chk Tryd.prog 122 []=some (zbv_q.erase,[.tmp 2,.tmp 3,.tmp 4],30):=by kernel_rfl
def zbv_s (c:Int):Option (Int × Int × Int) :=
 bif ((decide (c<(194:Int))) || (decide ((244:Int)<c))) then (
  some ((-1:Int),(0:Int),(0:Int)))
 else (
  bif decide (c<(224:Int)) then (
   some ((1:Int),(128:Int),(191:Int)))
  else (
   bif decide (c=(224:Int)) then (
    some ((2:Int),(160:Int),(191:Int)))
   else (
    bif decide (c=(237:Int)) then (
     some ((2:Int),(128:Int),(159:Int)))
    else (
     bif decide (c<(240:Int)) then (
      some ((2:Int),(128:Int),(191:Int)))
     else (
      bif decide (c=(240:Int)) then (
       some ((3:Int),(144:Int),(191:Int)))
      else (
       bif decide (c=(244:Int)) then (
        some ((3:Int),(128:Int),(143:Int)))
       else (
        some ((3:Int),(128:Int),(191:Int)))))))))
def zbv_G:Nat→Option CQ:=tblQ []
theorem zbv_Gok:∀f C,zbv_G f=some C→qAf Tryd.prog f C:=fun f C h=>by cases h
def zbv_L:Nat→SubQ:=tblL []
theorem zbv_subs:qAp zbv_L zbv_G 0 5 30 zbv_q:=qAk (show qAr zbv_L zbv_G 0 5 30 [] from tV)
def zbv_da:=(qAb (dVC (dCO dZ)) dNil)
def zbv_db:=(dNil:Dec Unit (List SB))
def zbv_c:CS:=mkC zbv_da zbv_db (fun x y=>zbv_s x.1) (fun x y r=>.tup [.o (.vI r.1),.o (.vI r.2.1),.o (.vI r.2.2)]) fun x y r=>[]
theorem zbv_val:qAl Tryd.prog 122 zbv_c:=qAn zbv_chk 5 zbv_Gok 0 (fun x=>Nat.le_of_ble_eq_true rfl) (fun y=>rfl) zbv_subs fun x y=>by
 simp only [zbv_s,-eq_self,qAc,qAg,obA,obS,slL,slR,qAd];kernel_rfl
def zbv_w:CQ:=qDk [] zbv_c
theorem zbv_ok:qAf Tryd.prog 122 zbv_w:=qAu zbv_val
def zbz_q:IQ:=(.seq (rg 4 [oP 4 (.alloc 120 [.int .i64 0,.slice none 0 0,.string ⟨#[]⟩,.int .i64 0,.int .i64 0])]) (.seq (rg 0 [oM 5 t0,oM 6 t1,oP 7 (.build [.int .i64 0,.slice none 0 0,.string ⟨#[]⟩,.int .i64 0,.int .i64 0] [(3,1,t5),(4,1,t6)]),oN (.store 5 t4 t7)]) (.canon [(4,some 1,.node,46)] [4] .ret)))
theorem zbz_chk:chk Tryd.prog 95 []=some (zbz_q.erase,[.cell 4 (some 5)],8):=by kernel_rfl
def qEy (e at_:Int):Option qHb :=
 some (⟨(0:Int),[],(⟨#[]⟩:BA),e,at_⟩:qHb)
def zbz_G:Nat→Option CQ:=tblQ []
theorem zbz_Gok:∀f C,zbz_G f=some C→qAf Tryd.prog f C:=fun f C h=>by cases h
def zbz_L:Nat→SubQ:=tblL []
theorem zbz_subs:qAp zbz_L zbz_G 0 5 8 zbz_q:=qAk (show qAr zbz_L zbz_G 0 5 8 [] from tV)
def zbz_da:=(qAb (dVC (dCO dZ)) (qAb (dVC (dCO dZ)) dNil))
def zbz_db:=(dNil:Dec Unit (List SB))
def zbz_c:CS:=mkC zbz_da zbz_db (fun x y=>qEy x.1 x.2.1) (fun x y r=>.c (.agg [.vI r.at_,.own 0,.vS r.s,.vI r.code,.vI r.bad])) fun x y r=>[.row .node 46 r.l]
theorem zbz_val:qAl Tryd.prog 95 zbz_c:=qAn zbz_chk 5 zbz_Gok 0 (fun x=>Nat.le_of_ble_eq_true rfl) (fun y=>rfl) zbz_subs fun x y=>by
 simp only [qEy,-eq_self,qAc,qAg,obA,obS,slL,slR,qAd];kernel_rfl
def zbz_w:CQ:=qB9 [] zbz_c
theorem zbz_ok:qAf Tryd.prog 95 zbz_w:=qA4 zbz_val
def zbw_q:IQ:=(.seq (rg 4 [oP 4 (.mv (vI 0))]) (.seq (.seq (rg 8 [oM 5 t1,oM 6 t0,oP 7 (.lenS t6),oP 8 (.bi .geq t5 t7)]) (.cond t8 (.seq (rg 4 [oP 4 (.mv (.v (.int .i64 (-1))))]) (.cn [4] .ret)) .skip)) (.seq (rg 4 [oM 9 t0,oM 10 t1,oP 11 (.index t9 t10),oP 12 (.conv false .i64 t11),oM 4 t12]) (.cn [4] .ret))))
theorem zbw_chk:chk Tryd.prog 94 []=some (zbw_q.erase,[.tmp 4],13):=by kernel_rfl
def qDr (t:BA) (at_:Int):Option Int :=
 bif decide ((t.size:Int)≤at_) then (
  some (-1:Int))
 else (
  gd (0≤at_∧at_<t.size) <|
  gd (qAe (bAt t at_)) <|
  some (bAt t at_))
def zbw_G:Nat→Option CQ:=tblQ []
theorem zbw_Gok:∀f C,zbw_G f=some C→qAf Tryd.prog f C:=fun f C h=>by cases h
def zbw_L:Nat→SubQ:=tblL []
theorem zbw_subs:qAp zbw_L zbw_G 0 5 13 zbw_q:=qAk (show qAr zbw_L zbw_G 0 5 13 [] from tV)
def zbw_da:=(qAb (dVC (dCO dS)) (qAb (dVC (dCO dZ)) dNil))
def zbw_db:=(dNil:Dec Unit (List SB))
def zbw_c:CS:=mkC zbw_da zbw_db (fun x y=>qDr x.1 x.2.1) (fun x y r=>.c (.o (.vI r))) fun x y r=>[]
theorem zbw_val:qAl Tryd.prog 94 zbw_c:=qAn zbw_chk 5 zbw_Gok 0 (fun x=>Nat.le_of_ble_eq_true rfl) (fun y=>rfl) zbw_subs fun x y=>by
 simp only [qDr,-eq_self,qAc,qAg,obA,obS,slL,slR,qAd];kernel_rfl
def zbw_w:CQ:=qDk [] zbw_c
theorem zbw_ok:qAf Tryd.prog 94 zbw_w:=qAu zbw_val
def zch_b0:IQ:=(.loop [0,1,4,5,6,7,8] (.seq (.seq (rg 25 [oM 23 t8,oM 24 t5,oP 25 (.bi .leq t23 t24)]) (.cond t25 .skip (.cn [0,1,4,5] (.exit 0)))) (.seq (.block 1 (.seq (rg 9 [oM 28 t0,oM 29 t1,oM 30 t8,oP 31 (.bi .add t29 t30),oP 32 (.call 94 [t28,t31]),oM 9 t32]) (.seq (.seq (rg 34 [oM 33 t9,oP 34 (.bi .lss t33 (vI 0))]) (.cond t34 (.seq (rg 0 [oM 35 t0,oP 36 (.lenS t35),oP 37 (.call 95 [(vI 31),t36]),oN (.store 5 t4 t37)]) (.canon [(4,some 1,.node,46)] [4] .ret)) .skip)) (.seq (.seq (rg 45 [oM 38 t9,oM 39 t6,oP 40 (.bi .lss t38 t39),oM 41 t40,oE 42 (.mv t9) 41,oE 43 (.mv t7) 41,oE 44 (.bi .gtr t42 t43) 41,oP 45 (.pick t41 vT t44)]) (.cond t45 (.seq (rg 0 [oM 46 t1,oP 47 (.call 95 [(vI 32),t46]),oN (.store 5 t4 t47)]) (.canon [(4,some 1,.node,46)] [4] .ret)) .skip)) (.seq (rg 6 [oP 6 (.mv (vI 128))]) (rg 7 [oP 7 (.mv (vI 191))])))))) (rg 8 [oM 26 t8,oP 27 (.bi .add t26 (vI 1)),oM 8 t27]))))
def zch_q:IQ:=(.seq (rg 4 [oP 4 (.alloc 120 [.int .i64 0,.slice none 0 0,.string ⟨#[]⟩,.int .i64 0,.int .i64 0])]) (.seq (rg 7 [oM 11 t0,oM 12 t1,oP 13 (.index t11 t12),oP 14 (.conv false .i64 t13),oP 15 (.call 122 [t14]),oM 10 t15,oP 16 (.extract t10 0),oP 17 (.extract t10 1),oP 18 (.extract t10 2),oM 5 t16,oM 6 t17,oM 7 t18]) (.seq (.seq (rg 20 [oM 19 t5,oP 20 (.bi .lss t19 (vI 0))]) (.cond t20 (.seq (rg 0 [oM 21 t1,oP 22 (.call 95 [(vI 32),t21]),oN (.store 5 t4 t22)]) (.canon [(4,some 1,.node,46)] [4] .ret)) .skip)) (.seq (.seq (rg 8 [oP 8 (.mv (vI 1))]) (.block 0 (.cn [0,1,4,5,6,7,8] (.sub 0 zch_b0)))) (.seq (rg 0 [oM 48 t1,oM 49 t5,oP 50 (.bi .add t48 t49),oP 51 (.bi .add t50 (vI 1)),oM 52 t0,oM 53 t1,oM 54 t1,oM 55 t5,oP 56 (.bi .add t54 t55),oP 57 (.bi .add t56 (vI 1)),oP 58 (.sub none t52 (some t53) (some t57)),oP 59 (.build [.int .i64 0,.slice none 0 0,.string ⟨#[]⟩,.int .i64 0,.int .i64 0] [(0,1,t51),(2,1,t58)]),oN (.store 5 t4 t59)]) (.canon [(4,some 1,.node,46)] [4] .ret))))))
theorem zch_chk:chk Tryd.prog 109 []=some (zch_q.erase,[.cell 4 (some 5)],60):=by kernel_rfl
def qDn (t:BA) (at_ n low high i:Int):Option ((Int × Int × Int) ⊕ ((Int × BA × Int × Int × (List Eng.Node)) ⊕ Unit)) :=
 bif decide (i≤n) then (
  gd (qAe (at_+i)) <|
  (qDr t (at_+i)).bind fun r18 =>
  bif decide (r18<(0:Int)) then (
   (qEy (31:Int) (t.size:Int)).bind fun r19 =>
   some (.inr (.inl (r19.at_,r19.s,r19.code,r19.bad,r19.l))))
  else (
   bif ((decide (r18<low)) || (decide (high<r18))) then (
    (qEy (32:Int) at_).bind fun r20 =>
    some (.inr (.inl (r20.at_,r20.s,r20.code,r20.bad,r20.l))))
   else (
    gd (qAe (i+(1:Int))) <|
    some (.inl ((128:Int),(191:Int),(i+(1:Int)))))))
 else (
  some (.inr (.inr ())))
def zch_p0 (t:BA) (at_ n low high i:Int):Option ((Int × BA × Int × Int × (List Eng.Node)) ⊕ Unit) :=
 qA6 (fun x:(Int × Int × Int)=>qDn t at_ n x.1 x.2.1 x.2.2) (low,high,i)
def zch_s (t:BA) (at_:Int):Option qHb :=
 gd (0≤at_∧at_<t.size) <|
 gd (qAe (bAt t at_)) <|
 (zbv_s (bAt t at_)).bind fun r16 =>
 bif decide (r16.1<(0:Int)) then (
  (qEy (32:Int) at_).bind fun r17 =>
  some r17)
 else (
  (zch_p0 t at_ r16.1 r16.2.1 r16.2.2 (1:Int)).bind fun o21=>(Sum.elim (fun (o21_0:Int × BA × Int × Int × (List Eng.Node)) =>
   some (⟨o21_0.1,o21_0.2.2.2.2,o21_0.2.1,o21_0.2.2.1,o21_0.2.2.2.1⟩:qHb)) (fun (o21_1:Unit) =>
   gd (qAe (at_+r16.1)) <|
   gd (qAe ((at_+r16.1)+(1:Int))) <|
   gd (qAe (at_+r16.1)) <|
   gd (qAe ((at_+r16.1)+(1:Int))) <|
   gd (0≤at_∧at_≤((at_+r16.1)+(1:Int))∧((at_+r16.1)+(1:Int))≤t.size) <|
   some (⟨((at_+r16.1)+(1:Int)),[],(t.extract (Int.toNat at_) (Int.toNat ((at_+r16.1)+(1:Int)))),(0:Int),(0:Int)⟩:qHb))) o21)
def zch_G:Nat→Option CQ:=tblQ [(122,zbv_w),(95,zbz_w),(94,zbw_w)]
theorem zch_Gok:∀f C,zch_G f=some C→qAf Tryd.prog f C:=qAj ⟨zbv_ok,zbz_ok,zbw_ok,tV⟩
def zch_d0:=(dQS (qAb (dSO 0 dS) (qAb (dSO 1 dZ) (qAb (dSO 4 (dH 0 0)) (qAb (dSO 5 dZ) (qAb (dSO 6 dZ) (qAb (dSO 7 dZ) (qAb (dSO 8 dZ) dNil))))))) (qAb (qDt 120 (qAb dZ (qAb dNS (qAb dS (qAb dZ (qAb dZ dNil)))))) dNil))
def zch_l0:SubQ:=mkL zch_d0 (fun x=>zch_p0 x.1.1 x.1.2.1 x.1.2.2.2.1 x.1.2.2.2.2.1 x.1.2.2.2.2.2.1 x.1.2.2.2.2.2.2.1) fun x r R kn kx kr=>(Sum.elim (fun (r_0:Int × BA × Int × Int × (List Eng.Node))=>kr ⟨[sL 4 (.hd 0 0)],[],[.cells 120 [.vI r_0.1,.own 1,.vS r_0.2.1,.vI r_0.2.2.1,.vI r_0.2.2.2.1],.row .node 46 r_0.2.2.2.2]⟩) (fun (r_1:Unit)=>kx 0 ⟨[sL 0 (.vS x.1.1),sL 1 (.vI x.1.2.1),sL 4 (.hd 0 0),sL 5 (.vI x.1.2.2.2.1)],[],[.cells 120 [.vI x.2.1.1,.val (.slice none 0 0),.vS x.2.1.2.2.1,.vI x.2.1.2.2.2.1,.vI x.2.1.2.2.2.2.1]]⟩)) r
def zch_L:Nat→SubQ:=tblL [(0,zch_l0)]
theorem zch_sub0:qBe zch_L zch_G 0 10 60 0 zch_b0:=qAq (show zch_L 0=zch_l0 from by kernel_rfl) fun x R kn kx kr=>qAt (step:=fun y=>qDn x.1.1 x.1.2.1 x.1.2.2.2.1 y.1 y.2.1 y.2.2) (enc:=fun (y:Int × Int × Int)=>zch_d0.e ((x.1.1,x.1.2.1,x.1.2.2.1,x.1.2.2.2.1,y.1,y.2.1,y.2.2,x.1.2.2.2.2.2.2.2),x.2)) (fun y=>by kernel_rfl) (fun y ki=>by simp only [qDn,-eq_self,qAc,qAg,obA,obS,slL,slR,qAd]; kernel_rfl) (x.1.2.2.2.2.1,x.1.2.2.2.2.2.1,x.1.2.2.2.2.2.2.1)
theorem zch_subs:qAp zch_L zch_G 0 10 60 zch_q:=qAk (show qAr zch_L zch_G 0 10 60 [(0,zch_b0)] from ⟨zch_sub0,tV⟩)
def zch_da:=(qAb (dVC (dCO dS)) (qAb (dVC (dCO dZ)) dNil))
def zch_db:=(dNil:Dec Unit (List SB))
def zch_c:CS:=mkC zch_da zch_db (fun x y=>zch_s x.1 x.2.1) (fun x y r=>.c (.agg [.vI r.at_,.own 0,.vS r.s,.vI r.code,.vI r.bad])) fun x y r=>[.row .node 46 r.l]
theorem zch_val:qAl Tryd.prog 109 zch_c:=qAn zch_chk 10 zch_Gok 0 (fun x=>Nat.le_of_ble_eq_true rfl) (fun y=>rfl) zch_subs fun x y=>by
 simp only [zch_s,-eq_self,qAc,qAg,obA,obS,slL,slR,qAd];kernel_rfl
def zch_w:CQ:=qB9 [] zch_c
theorem zch_ok:qAf Tryd.prog 109 zch_w:=qA4 zch_val
def qBf (s:BA) (at_:Int):Option (Int ⊕ (Bool ⊕ Unit)) :=
 bif decide (at_<(s.size:Int)) then (
  gd (0≤at_∧at_<s.size) <|
  bif decide ((bAt s at_)<(128:Int)) then (
   gd (qAe (at_+(1:Int))) <|
   some (.inl (at_+(1:Int))))
  else (
   (zch_s s at_).bind fun r1 =>
   bif (!decide (r1.code=(0:Int))) then (
    some (.inr (.inl false)))
   else (
    some (.inl r1.at_))))
 else (
  some (.inr (.inr ())))
def qBn (s:BA) (at_:Int):Option (Bool ⊕ Unit) :=
 qA6 (fun x:Int=>qBf s x) at_
def qE4 (s:BA):Option Bool :=
 (qBn s (0:Int)).bind fun o2=>(Sum.elim (fun (o2_0:Bool) =>
  some o2_0) (fun (o2_1:Unit) =>
  some true)) o2
def qDs (n:Eng.Node):Option Bool :=
 bif ((((decide (n.kind<(1:Int))) || (decide ((7:Int)<n.kind))) || (decide (n.kids<(0:Int)))) || ((decide ((0:Int)<n.kids)) && (decide (n.kind<(6:Int))))) then (
  some false)
 else (
  (zbn_s n.text).bind fun r1 =>
  (qDy n.text).bind fun r2 =>
  (qE4 n.text).bind fun r3 =>
  bif decide (n.kind=(4:Int)) then (
   some ((r2 && (r1.2 == n.whole)) && (decide (r1.1=n.int))))
  else (
   bif (n.whole || (!decide (n.int=(0:Int)))) then (
    some false)
   else (
    bif decide (n.kind=(5:Int)) then (
     some r3)
    else (
     some (decide (n.text=(⟨#[]⟩:BA)))))))
def zbu_b0:IQ:=(.loop [0,1,5] (.seq (.seq (rg 9 [oM 6 t5,oM 7 t0,oP 8 (.len t7),oP 9 (.bi .lss t6 t8)]) (.cond t9 .skip (.cn [] (.exit 0)))) (.seq (.block 1 (.seq (rg 17 [oM 12 t0,oM 13 t5,oP 14 (.iaddr 1 t12 t13),oP 15 (.load none t14),oM 16 t1,oP 17 (.bi .eql t15 t16)]) (.cond t17 (.seq (rg 4 [oP 4 (.mv vT)]) (.cn [4] .ret)) .skip))) (rg 5 [oM 10 t5,oP 11 (.bi .add t10 (vI 1)),oM 5 t11]))))
def zbu_q:IQ:=(.seq (rg 4 [oP 4 (.mv vF)]) (.seq (.seq (rg 5 [oP 5 (.mv (vI 0))]) (.block 0 (.cn [0,1,5] (.sub 0 zbu_b0)))) (.seq (rg 4 [oP 4 (.mv vF)]) (.cn [4] .ret))))
theorem zbu_chk:chk Tryd.prog 88 []=some (zbu_q.erase,[.tmp 4],18):=by kernel_rfl
def qEl (s:BA) (i:Int) (l:List BA):Option (Int ⊕ (Bool ⊕ Unit)) :=
 bif decide (i<(l.length:Int)) then (
  gd (0≤i∧i<l.length) <|
  gd ((Int.toNat i)<l.length) <|
  bif decide ((l.getD (Int.toNat i) (ET.dft .str))=s) then (
   some (.inr (.inl true)))
  else (
   gd (qAe (i+(1:Int))) <|
   some (.inl (i+(1:Int)))))
 else (
  some (.inr (.inr ())))
def zbu_p0 (s:BA) (i:Int) (l:List BA):Option (Bool ⊕ Unit) :=
 qA6 (fun x:Int=>qEl s x l) i
def zbu_s (l:(List BA)) (s:BA):Option Bool :=
 (zbu_p0 s (0:Int) l).bind fun o1=>(Sum.elim (fun (o1_0:Bool) =>
  some o1_0) (fun (o1_1:Unit) =>
  some false)) o1
def zbu_G:Nat→Option CQ:=tblQ []
theorem zbu_Gok:∀f C,zbu_G f=some C→qAf Tryd.prog f C:=fun f C h=>by cases h
def zbu_d0:=(dQS (qAb (dSO 0 (dO 0)) (qAb (dSO 1 dS) (qAb (dSO 5 dZ) dNil))) (qAb (qC2 .str) dNil))
def zbu_l0:SubQ:=mkL zbu_d0 (fun x=>zbu_p0 x.1.2.1 x.1.2.2.1 x.2.1) fun x r R kn kx kr=>(Sum.elim (fun (r_0:Bool)=>kr ⟨[sL 4 (.vB r_0)],[],[.view .str x.2.1]⟩) (fun (r_1:Unit)=>kx 0 ⟨[],[],[.view .str x.2.1]⟩)) r
def zbu_L:Nat→SubQ:=tblL [(0,zbu_l0)]
theorem zbu_sub0:qBe zbu_L zbu_G 1 6 18 0 zbu_b0:=qAq (show zbu_L 0=zbu_l0 from by kernel_rfl) fun x R kn kx kr=>qAt (step:=fun y=>qEl x.1.2.1 y x.2.1) (enc:=fun (y:Int)=>zbu_d0.e ((x.1.1,x.1.2.1,y,x.1.2.2.2),x.2)) (fun y=>by kernel_rfl) (fun y ki=>by simp only [qEl,-eq_self,qAc,qAg,obA,obS,slL,slR,qAd]; kernel_rfl) x.1.2.2.1
theorem zbu_subs:qAp zbu_L zbu_G 1 6 18 zbu_q:=qAk (show qAr zbu_L zbu_G 1 6 18 [(0,zbu_b0)] from ⟨zbu_sub0,tV⟩)
def zbu_da:=(qAb (dVC (dCO (dO 0))) (qAb (dVC (dCO dS)) dNil))
def zbu_db:=(qAb (qC2 .str) dNil)
def zbu_c:CS:=mkC zbu_da zbu_db (fun x y=>zbu_s y.1 x.2.1) (fun x y r=>.c (.o (.vB r))) fun x y r=>[.view .str y.1]
theorem zbu_val:qAl Tryd.prog 88 zbu_c:=qAn zbu_chk 6 zbu_Gok 1 (fun x=>Nat.le_of_ble_eq_true rfl) (fun y=>rfl) zbu_subs fun x y=>by
 simp only [zbu_s,-eq_self,qAc,qAg,obA,obS,slL,slR,qAd];kernel_rfl
def zbu_w:CQ:=qCt [(0,none,some (.str,9))] (qDk [false] zbu_c)
theorem zbu_ok:qAf Tryd.prog 88 zbu_w:=qG2 zbu_val
def zbq_da:=(qAb (dVC (dCO (dO 0))) (qAb (dVC (dCO dZ)) dNil))
def zbq_db:=(qAb (qC2 .node) dNil)
def zbq_cs (self:(List Eng.Node)→Int→Option Int):CS:=mkC zbq_da zbq_db (fun x y=>self y.1 x.2.1) (fun x y r=>.c (.o (.vI r))) fun x y r=>[.view .node y.1]
def zbq_ws (self:(List Eng.Node)→Int→Option Int):CQ:=qCt [(0,none,some (.node,46))] (qDk [false] (zbq_cs self))
def zbq_b0:IQ:=(.loop [0,1,5,6] (.seq (.seq (rg 27 [oM 17 t6,oM 18 t0,oM 19 t1,oP 20 (.iaddr 6 t18 t19),oP 21 (.faddr 5 t20),oP 22 (.load none t21),oP 23 (.bi .lss t17 t22),oM 24 t23,oF 25 (.mv t5) 24,oF 26 (.bi .geq t25 (vI 0)) 24,oP 27 (.pick t24 t26 vF)]) (.cond t27 .skip (.cn [5] (.exit 0)))) (.seq (.block 1 (rg 5 [oM 30 t0,oM 31 t5,oP 32 (.call 74 [t30,t31]),oM 5 t32])) (rg 6 [oM 28 t6,oP 29 (.bi .add t28 (vI 1)),oM 6 t29]))))
def zbq_q:IQ:=(.seq (rg 4 [oP 4 (.mv (vI 0))]) (.seq (.seq (rg 14 [oM 7 t1,oP 8 (.bi .lss t7 (vI 0)),oM 9 t8,oE 10 (.mv t1) 9,oE 11 (.mv t0) 9,oE 12 (.len t11) 9,oE 13 (.bi .geq t10 t12) 9,oP 14 (.pick t9 vT t13)]) (.cond t14 (.seq (rg 4 [oP 4 (.mv (.v (.int .i64 (-1))))]) (.cn [4] .ret)) .skip)) (.seq (rg 5 [oM 15 t1,oP 16 (.bi .add t15 (vI 1)),oM 5 t16]) (.seq (.seq (rg 6 [oP 6 (.mv (vI 0))]) (.block 0 (.cn [0,1,5,6] (.sub 0 zbq_b0)))) (.seq (rg 4 [oM 33 t5,oM 4 t33]) (.cn [4] .ret))))))
theorem zbq_chk:chk Tryd.prog 74 []=some (zbq_q.erase,[.tmp 4],34):=by kernel_rfl
def qFu (self:(List Eng.Node)→Int→Option Int) (at_ next i:Int) (v:List Eng.Node):Option ((Int × Int) ⊕ Int) :=
 gd (0≤at_∧at_<v.length) <|
 gd ((Int.toNat at_)<v.length) <|
 gd ((Int.toNat at_)<v.length) <|
 bif ((decide (i<((v.getD (Int.toNat at_) (ET.dft .node)).kids))) && (decide ((0:Int)≤next))) then (
  (self v next).bind fun r3 =>
  gd (qAe (i+(1:Int))) <|
  some (.inl (r3,(i+(1:Int)))))
 else (
  some (.inr next))
def zbq_p0 (self:(List Eng.Node)→Int→Option Int) (at_ next i:Int) (v:List Eng.Node):Option Int :=
 qA6 (fun x:(Int × Int)=>qFu self at_ x.1 x.2 v) (next,i)
def zbq_t (self:(List Eng.Node)→Int→Option Int) (v:(List Eng.Node)) (at_:Int):Option Int :=
 bif ((decide (at_<(0:Int))) || (decide ((v.length:Int)≤at_))) then (
  some (-1:Int))
 else (
  gd (qAe (at_+(1:Int))) <|
  (zbq_p0 self at_ (at_+(1:Int)) (0:Int) v).bind fun o4 =>
  some o4)
def zbq_G (self:(List Eng.Node)→Int→Option Int):Nat→Option CQ:=tblQ [(74,zbq_ws self)]
theorem zbq_Gok (self:(List Eng.Node)→Int→Option Int) (hself:qAf Tryd.prog 74 (zbq_ws self)):∀f C,(zbq_G self) f=some C→qAf Tryd.prog f C:=qAj ⟨hself,tV⟩
def zbq_d0:=(dQS (qAb (dSO 0 (dO 0)) (qAb (dSO 1 dZ) (qAb (dSO 5 dZ) (qAb (dSO 6 dZ) dNil)))) (qAb (qC2 .node) dNil))
def zbq_l0 (self:(List Eng.Node)→Int→Option Int):SubQ:=mkL zbq_d0 (fun x=>zbq_p0 self x.1.2.1 x.1.2.2.1 x.1.2.2.2.1 x.2.1) fun x r R kn kx kr=>kx 0 ⟨[sL 5 (.vI r)],[],[.view .node x.2.1]⟩
def zbq_L (self:(List Eng.Node)→Int→Option Int):Nat→SubQ:=tblL [(0,zbq_l0 self)]
theorem zbq_sub0 (self:(List Eng.Node)→Int→Option Int):qBe (zbq_L self) (zbq_G self) 1 7 34 0 zbq_b0:=qAq (show (zbq_L self) 0=(zbq_l0 self) from by kernel_rfl) fun x R kn kx kr=>qAt (step:=fun y=>qFu self x.1.2.1 y.1 y.2 x.2.1) (enc:=fun (y:Int × Int)=>zbq_d0.e ((x.1.1,x.1.2.1,y.1,y.2,x.1.2.2.2.2),x.2)) (fun y=>by kernel_rfl) (fun y ki=>by simp only [qFu,-eq_self,qAc,qAg,obA,obS,slL,slR,qAd]; kernel_rfl) (x.1.2.2.1,x.1.2.2.2.1)
theorem zbq_subs (self:(List Eng.Node)→Int→Option Int):qAp (zbq_L self) (zbq_G self) 1 7 34 zbq_q:=qAk (show qAr (zbq_L self) (zbq_G self) 1 7 34 [(0,zbq_b0)] from ⟨(zbq_sub0 self),tV⟩)
theorem zbq_val_t (self:(List Eng.Node)→Int→Option Int) (hself:qAf Tryd.prog 74 (zbq_ws self)):qAl Tryd.prog 74 (zbq_cs (zbq_t self)):=qAn zbq_chk 7 (zbq_Gok self hself) 1 (fun x=>Nat.le_of_ble_eq_true rfl) (fun y=>rfl) (zbq_subs self) fun x y=>by
 simp only [zbq_t,-eq_self,qAc,qAg,obA,obS,slL,slR,qAd];kernel_rfl
def zbq_n:Nat→(List Eng.Node)→Int→Option Int
 | 0=>fun _ _=>none
 | n+1=>zbq_t (zbq_n n)
def zbq_s (v:(List Eng.Node)) (at_:Int):Option Int:=evt fun n=>zbq_n n v at_
theorem zbq_valn:∀n,qAl Tryd.prog 74 (zbq_cs (zbq_n n))
 | 0=>qAl.zero fun args hp R k=>by
  show ((Dec.d zbq_da args).bind fun x=>(Dec.d zbq_db hp).bind fun y=>none)=none;cases Dec.d zbq_da args with
  | none=>rfl
  | some x=>cases Dec.d zbq_db hp <;> rfl
 | n+1=>zbq_val_t (zbq_n n) (qG2 (zbq_valn n))
theorem zbq_val:qAl Tryd.prog 74 (zbq_cs zbq_s):=qAl.evt zbq_valn (fun args hp R k=>by
  show ((Dec.d zbq_da args).bind fun x=>(Dec.d zbq_db hp).bind fun y=>_)=(((Dec.d zbq_da args).bind fun x=>(Dec.d zbq_db hp).bind fun y=>_):Option (SV × List SB)).bind _;cases Dec.d zbq_da args with
  | none=>rfl
  | some x =>
   cases Dec.d zbq_db hp with
   | none=>rfl
   | some y=>simp only [obS,Option.bind_assoc]) fun args hp v hp' h=>by
  obtain ⟨x,h1,h2⟩:=Option.bind_eq_some_iff.1 h;obtain ⟨y,h3,h4⟩:=Option.bind_eq_some_iff.1 h2;obtain ⟨r,h5,h6⟩:=Option.bind_eq_some_iff.1 h4;obtain ⟨n,h7⟩:=evt_some h5;refine ⟨n,?_⟩;show ((Dec.d zbq_da args).bind fun x=>(Dec.d zbq_db hp).bind fun y=>_)=_;rw [h1];simp only [obS];rw [h3];simp only [obS];exact (congrArg (fun z=>Option.bind z _) h7).trans h6
def zbq_w:CQ:=zbq_ws zbq_s
theorem zbq_ok:qAf Tryd.prog 74 zbq_w:=qG2 zbq_val
def zbr_b0:IQ:=(.loop [0,1,5,6,7] (.seq (.seq (rg 35 [oM 19 t7,oM 20 t0,oM 21 t1,oP 22 (.iaddr 6 t20 t21),oP 23 (.faddr 5 t22),oP 24 (.load none t23),oP 25 (.bi .lss t19 t24),oM 26 t25,oF 27 (.mv t6) 26,oF 28 (.bi .geq t27 (vI 0)) 26,oP 29 (.pick t26 t28 vF),oM 30 t29,oF 31 (.mv t6) 30,oF 32 (.mv t0) 30,oF 33 (.len t32) 30,oF 34 (.bi .lss t31 t33) 30,oP 35 (.pick t30 t34 vF)]) (.cond t35 .skip (.cn [5] (.exit 0)))) (.seq (.block 1 (.seq (rg 5 [oM 38 t5,oM 39 t6,oP 40 (.bslice 3 1 1 [.int .i64 0] [(0,t39)]),oP 41 (.append 3 1 8 [.int .i64 0] t38 t40),oM 5 t41]) (rg 6 [oM 42 t0,oM 43 t6,oP 44 (.call 74 [t42,t43]),oM 6 t44]))) (rg 7 [oM 36 t7,oP 37 (.bi .add t36 (vI 1)),oM 7 t37]))))
def zbr_q:IQ:=(.seq (rg 4 [oP 4 (.mv (.v (.slice none 0 0)))]) (.seq (rg 5 [oP 5 (.mv (.v (.slice none 0 0)))]) (.seq (.seq (rg 15 [oM 8 t1,oP 9 (.bi .lss t8 (vI 0)),oM 10 t9,oE 11 (.mv t1) 10,oE 12 (.mv t0) 10,oE 13 (.len t12) 10,oE 14 (.bi .geq t11 t13) 10,oP 15 (.pick t10 vT t14)]) (.cond t15 (.seq (rg 4 [oM 16 t5,oM 4 t16]) (.canon [(4,none,.i64,3)] [4] .ret)) .skip)) (.seq (rg 6 [oM 17 t1,oP 18 (.bi .add t17 (vI 1)),oM 6 t18]) (.seq (.seq (rg 7 [oP 7 (.mv (vI 0))]) (.block 0 (.canon [(5,none,.i64,3)] [0,1,5,6,7] (.sub 0 zbr_b0)))) (.seq (rg 4 [oM 45 t5,oM 4 t45]) (.canon [(4,none,.i64,3)] [4] .ret)))))))
theorem zbr_chk:chk Tryd.prog 49 []=some (zbr_q.erase,[.tmp 4],46):=by kernel_rfl
def qFp (at_ next i:Int) (v:List Eng.Node) (out:List Int):Option ((Int × Int × (List Int)) ⊕ ((List Int))) :=
 gd (0≤at_∧at_<v.length) <|
 gd ((Int.toNat at_)<v.length) <|
 gd ((Int.toNat at_)<v.length) <|
 bif (((decide (i<((v.getD (Int.toNat at_) (ET.dft .node)).kids))) && (decide ((0:Int)≤next))) && (decide (next<(v.length:Int)))) then (
  gd (out.length+([next]:List Int).length≤9223372036854775807∧(out.length+([next]:List Int).length)*8≤140737488355328) <|
  (zbq_s v next).bind fun r5 =>
  gd (qAe (i+(1:Int))) <|
  some (.inl (r5,(i+(1:Int)),(out++[next]))))
 else (
  some (.inr out))
def zbr_p0 (at_ next i:Int) (v:List Eng.Node) (out:List Int):Option ((List Int)) :=
 qA6 (fun x:(Int × Int × (List Int))=>qFp at_ x.1 x.2.1 v x.2.2) (next,i,out)
def zbr_s (v:(List Eng.Node)) (at_:Int):Option ((List Int)) :=
 bif ((decide (at_<(0:Int))) || (decide ((v.length:Int)≤at_))) then (
  some [])
 else (
  gd (qAe (at_+(1:Int))) <|
  (zbr_p0 at_ (at_+(1:Int)) (0:Int) v []).bind fun o6 =>
  some o6)
def zbr_G:Nat→Option CQ:=tblQ [(74,zbq_w)]
theorem zbr_Gok:∀f C,zbr_G f=some C→qAf Tryd.prog f C:=qAj ⟨zbq_ok,tV⟩
def zbr_d0:=(dQS (qAb (dSO 0 (dO 0)) (qAb (dSO 1 dZ) (qAb (dSO 5 (dO 1)) (qAb (dSO 6 dZ) (qAb (dSO 7 dZ) dNil))))) (qAb (qC2 .node) (qAb (dRow .i64 3) dNil)))
def zbr_l0:SubQ:=mkL zbr_d0 (fun x=>zbr_p0 x.1.2.1 x.1.2.2.2.1 x.1.2.2.2.2.1 x.2.1 x.2.2.1) fun x r R kn kx kr=>kx 0 ⟨[sL 5 (.own 1)],[],[.view .node x.2.1,.row .i64 3 r]⟩
def zbr_L:Nat→SubQ:=tblL [(0,zbr_l0)]
theorem zbr_sub0:qBe zbr_L zbr_G 1 8 46 0 zbr_b0:=qAq (show zbr_L 0=zbr_l0 from by kernel_rfl) fun x R kn kx kr=>qAt (step:=fun y=>qFp x.1.2.1 y.1 y.2.1 x.2.1 y.2.2) (enc:=fun (y:Int × Int × (List Int))=>zbr_d0.e ((x.1.1,x.1.2.1,x.1.2.2.1,y.1,y.2.1,x.1.2.2.2.2.2),(x.2.1,y.2.2,x.2.2.2))) (fun y=>by kernel_rfl) (fun y ki=>by simp only [qFp,-eq_self,qAc,qAg,obA,obS,slL,slR,qAd]; kernel_rfl) (x.1.2.2.2.1,x.1.2.2.2.2.1,x.2.2.1)
theorem zbr_subs:qAp zbr_L zbr_G 1 8 46 zbr_q:=qAk (show qAr zbr_L zbr_G 1 8 46 [(0,zbr_b0)] from ⟨zbr_sub0,tV⟩)
def zbr_da:=(qAb (dVC (dCO (dO 0))) (qAb (dVC (dCO dZ)) dNil))
def zbr_db:=(qAb (qC2 .node) dNil)
def zbr_c:CS:=mkC zbr_da zbr_db (fun x y=>zbr_s y.1 x.2.1) (fun x y r=>.c (.o (.own 1))) fun x y r=>[.view .node y.1,.row .i64 3 r]
theorem zbr_val:qAl Tryd.prog 49 zbr_c:=qAn zbr_chk 8 zbr_Gok 1 (fun x=>Nat.le_of_ble_eq_true rfl) (fun y=>rfl) zbr_subs fun x y=>by
 simp only [zbr_s,-eq_self,qAc,qAg,obA,obS,slL,slR,qAd];kernel_rfl
def zbr_w:CQ:=qCt [(0,none,some (.node,46))] (qB9 [false] zbr_c)
theorem zbr_ok:qAf Tryd.prog 49 zbr_w:=qA1 zbr_val
def qBq (key:BA) (i:Int) (v:List Eng.Node) (l:List Int):Option (Int ⊕ (Int ⊕ Unit)) :=
 bif decide (i<(l.length:Int)) then (
  gd (0≤i∧i<l.length) <|
  gd ((Int.toNat i)<l.length) <|
  gd (0≤(l.getD (Int.toNat i) (ET.dft .i64))∧(l.getD (Int.toNat i) (ET.dft .i64))<v.length) <|
  gd ((Int.toNat (l.getD (Int.toNat i) (ET.dft .i64)))<v.length) <|
  gd ((Int.toNat (l.getD (Int.toNat i) (ET.dft .i64)))<v.length) <|
  bif decide (((v.getD (Int.toNat (l.getD (Int.toNat i) (ET.dft .i64))) (ET.dft .node)).key)=key) then (
   gd (0≤i∧i<l.length) <|
   gd ((Int.toNat i)<l.length) <|
   some (.inr (.inl (l.getD (Int.toNat i) (ET.dft .i64)))))
  else (
   gd (qAe (i+(1:Int))) <|
   some (.inl (i+(1:Int)))))
 else (
  some (.inr (.inr ())))
def qBw (key:BA) (i:Int) (v:List Eng.Node) (l:List Int):Option (Int ⊕ Unit) :=
 qA6 (fun x:Int=>qBq key x v l) i
def qDm (v:(List Eng.Node)) (at_:Int) (key:BA):Option Int :=
 gd (((decide (at_<(0:Int))) || (decide ((v.length:Int)≤at_)))=false→0≤at_∧at_<v.length) <|
 gd (((decide (at_<(0:Int))) || (decide ((v.length:Int)≤at_)))=false→(Int.toNat at_)<v.length) <|
 gd (((decide (at_<(0:Int))) || (decide ((v.length:Int)≤at_)))=false→(Int.toNat at_)<v.length) <|
 bif (((decide (at_<(0:Int))) || (decide ((v.length:Int)≤at_))) || (!decide (((v.getD (Int.toNat at_) (ET.dft .node)).kind)=(7:Int)))) then (
  some (-1:Int))
 else (
  (zbr_s v at_).bind fun r2 =>
  (qBw key (0:Int) v r2).bind fun o3=>(Sum.elim (fun (o3_0:Int) =>
   some o3_0) (fun (o3_1:Unit) =>
   some (-1:Int))) o3)
def zaj_b0:IQ:=(.loop [0,1,5] (.seq (.seq (rg 21 [oM 14 t5,oP 15 (.bi .gtr t14 (vI 0)),oM 16 t15,oF 17 (.mv t1) 16,oF 18 (.mv t0) 16,oF 19 (.len t18) 16,oF 20 (.bi .lss t17 t19) 16,oP 21 (.pick t16 t20 vF)]) (.cond t21 .skip (.cn [1] (.exit 0)))) (.seq (.block 1 (rg 5 [oM 24 t5,oM 25 t0,oM 26 t1,oP 27 (.iaddr 6 t25 t26),oP 28 (.faddr 5 t27),oP 29 (.load none t28),oP 30 (.bin true .sub t29 (vI 1)),oP 31 (.bin true .add t24 t30),oM 5 t31])) (rg 1 [oM 22 t1,oP 23 (.bi .add t22 (vI 1)),oM 1 t23]))))
def zaj_q:IQ:=(.seq (rg 4 [oP 4 (.mv (vI 0))]) (.seq (.seq (rg 13 [oM 6 t1,oP 7 (.bi .lss t6 (vI 0)),oM 8 t7,oE 9 (.mv t1) 8,oE 10 (.mv t0) 8,oE 11 (.len t10) 8,oE 12 (.bi .geq t9 t11) 8,oP 13 (.pick t8 vT t12)]) (.cond t13 (.seq (rg 4 [oP 4 (.mv (.v (.int .i64 (-1))))]) (.cn [4] .ret)) .skip)) (.seq (.seq (rg 5 [oP 5 (.mv (vI 1))]) (.block 0 (.cn [0,1,5] (.sub 0 zaj_b0)))) (.seq (rg 4 [oM 32 t1,oM 4 t32]) (.cn [4] .ret)))))
theorem zaj_chk:chk Tryd.prog 56 [30,31]=some (zaj_q.erase,[.tmp 4],33):=by kernel_rfl
def qEg (at_ left:Int) (v:List Eng.Node):Option ((Int × Int) ⊕ Int) :=
 bif ((decide ((0:Int)<left)) && (decide (at_<(v.length:Int)))) then (
  gd (0≤at_∧at_<v.length) <|
  gd ((Int.toNat at_)<v.length) <|
  gd ((Int.toNat at_)<v.length) <|
  gd (qAe (at_+(1:Int))) <|
  some (.inl ((at_+(1:Int)),w64 (left+(w64 (((v.getD (Int.toNat at_) (ET.dft .node)).kids) - (1:Int)))))))
 else (
  some (.inr at_))
def zaj_p0 (at_ left:Int) (v:List Eng.Node):Option Int :=
 qA6 (fun x:(Int × Int)=>qEg x.1 x.2 v) (at_,left)
def zaj_s (v:(List Eng.Node)) (at_:Int):Option Int :=
 bif ((decide (at_<(0:Int))) || (decide ((v.length:Int)≤at_))) then (
  some (-1:Int))
 else (
  (zaj_p0 at_ (1:Int) v).bind fun o1 =>
  some o1)
def zaj_G:Nat→Option CQ:=tblQ []
theorem zaj_Gok:∀f C,zaj_G f=some C→qAf Tryd.prog f C:=fun f C h=>by cases h
def zaj_d0:=(dQS (qAb (dSO 0 (dO 0)) (qAb (dSO 1 dZ) (qAb (dSO 5 dZ) dNil))) (qAb (qC2 .node) dNil))
def zaj_l0:SubQ:=mkL zaj_d0 (fun x=>zaj_p0 x.1.2.1 x.1.2.2.1 x.2.1) fun x r R kn kx kr=>kx 0 ⟨[sL 1 (.vI r)],[],[.view .node x.2.1]⟩
def zaj_L:Nat→SubQ:=tblL [(0,zaj_l0)]
theorem zaj_sub0:qBe zaj_L zaj_G 1 6 33 0 zaj_b0:=qAq (show zaj_L 0=zaj_l0 from by kernel_rfl) fun x R kn kx kr=>qAt (step:=fun y=>qEg y.1 y.2 x.2.1) (enc:=fun (y:Int × Int)=>zaj_d0.e ((x.1.1,y.1,y.2,x.1.2.2.2),x.2)) (fun y=>by kernel_rfl) (fun y ki=>by simp only [qEg,-eq_self,qAc,qAg,obA,obS,slL,slR,qAd]; kernel_rfl) (x.1.2.1,x.1.2.2.1)
theorem zaj_subs:qAp zaj_L zaj_G 1 6 33 zaj_q:=qAk (show qAr zaj_L zaj_G 1 6 33 [(0,zaj_b0)] from ⟨zaj_sub0,tV⟩)
def zaj_da:=(qAb (dVC (dCO (dO 0))) (qAb (dVC (dCO dZ)) dNil))
def zaj_db:=(qAb (qC2 .node) dNil)
def zaj_c:CS:=mkC zaj_da zaj_db (fun x y=>zaj_s y.1 x.2.1) (fun x y r=>.c (.o (.vI r))) fun x y r=>[.view .node y.1]
theorem zaj_val:qAl Tryd.prog 56 zaj_c:=qAn zaj_chk 6 zaj_Gok 1 (fun x=>Nat.le_of_ble_eq_true rfl) (fun y=>rfl) zaj_subs fun x y=>by
 simp only [zaj_s,-eq_self,qAc,qAg,obA,obS,slL,slR,qAd];kernel_rfl
def zaj_w:CQ:=qCt [(0,none,some (.node,46))] (qDk [false] zaj_c)
theorem zaj_ok:qAf Tryd.prog 56 zaj_w:=qG2 zaj_val
def zak_b0:IQ:=(.loop [0,1,5,6,7] (.seq (.seq (rg 34 [oM 18 t7,oM 19 t0,oM 20 t1,oP 21 (.iaddr 6 t19 t20),oP 22 (.faddr 5 t21),oP 23 (.load none t22),oP 24 (.bi .lss t18 t23),oM 25 t24,oF 26 (.mv t6) 25,oF 27 (.bi .geq t26 (vI 0)) 25,oP 28 (.pick t25 t27 vF),oM 29 t28,oF 30 (.mv t6) 29,oF 31 (.mv t0) 29,oF 32 (.len t31) 29,oF 33 (.bi .lss t30 t32) 29,oP 34 (.pick t29 t33 vF)]) (.cond t34 .skip (.cn [5] (.exit 0)))) (.seq (.block 1 (.seq (rg 5 [oM 37 t5,oM 38 t6,oP 39 (.bslice 3 1 1 [.int .i64 0] [(0,t38)]),oP 40 (.append 3 1 8 [.int .i64 0] t37 t39),oM 5 t40]) (rg 6 [oM 41 t0,oM 42 t6,oP 43 (.call 56 [t41,t42]),oM 6 t43]))) (rg 7 [oM 35 t7,oP 36 (.bi .add t35 (vI 1)),oM 7 t36]))))
def zak_q:IQ:=(.seq (rg 4 [oP 4 (.mv (.v (.slice none 0 0)))]) (.seq (.seq (rg 15 [oM 8 t1,oP 9 (.bi .lss t8 (vI 0)),oM 10 t9,oE 11 (.mv t1) 10,oE 12 (.mv t0) 10,oE 13 (.len t12) 10,oE 14 (.bi .geq t11 t13) 10,oP 15 (.pick t10 vT t14)]) (.cond t15 (.seq (rg 4 [oP 4 (.mv (.v (.slice none 0 0)))]) (.canon [(4,none,.i64,3)] [4] .ret)) .skip)) (.seq (rg 5 [oP 5 (.mv (.v (.slice none 0 0)))]) (.seq (rg 6 [oM 16 t1,oP 17 (.bi .add t16 (vI 1)),oM 6 t17]) (.seq (.seq (rg 7 [oP 7 (.mv (vI 0))]) (.block 0 (.canon [(5,none,.i64,3)] [0,1,5,6,7] (.sub 0 zak_b0)))) (.seq (rg 4 [oM 44 t5,oM 4 t44]) (.canon [(4,none,.i64,3)] [4] .ret)))))))
theorem zak_chk:chk Tryd.prog 29 []=some (zak_q.erase,[.tmp 4],45):=by kernel_rfl
def qFs (at_ next i:Int) (v:List Eng.Node) (out:List Int):Option ((Int × Int × (List Int)) ⊕ ((List Int))) :=
 gd (0≤at_∧at_<v.length) <|
 gd ((Int.toNat at_)<v.length) <|
 gd ((Int.toNat at_)<v.length) <|
 bif (((decide (i<((v.getD (Int.toNat at_) (ET.dft .node)).kids))) && (decide ((0:Int)≤next))) && (decide (next<(v.length:Int)))) then (
  gd (out.length+([next]:List Int).length≤9223372036854775807∧(out.length+([next]:List Int).length)*8≤140737488355328) <|
  (zaj_s v next).bind fun r5 =>
  gd (qAe (i+(1:Int))) <|
  some (.inl (r5,(i+(1:Int)),(out++[next]))))
 else (
  some (.inr out))
def zak_p0 (at_ next i:Int) (v:List Eng.Node) (out:List Int):Option ((List Int)) :=
 qA6 (fun x:(Int × Int × (List Int))=>qFs at_ x.1 x.2.1 v x.2.2) (next,i,out)
def zak_s (v:(List Eng.Node)) (at_:Int):Option ((List Int)) :=
 bif ((decide (at_<(0:Int))) || (decide ((v.length:Int)≤at_))) then (
  some [])
 else (
  gd (qAe (at_+(1:Int))) <|
  (zak_p0 at_ (at_+(1:Int)) (0:Int) v []).bind fun o6 =>
  some o6)
def zak_G:Nat→Option CQ:=tblQ [(56,zaj_w)]
theorem zak_Gok:∀f C,zak_G f=some C→qAf Tryd.prog f C:=qAj ⟨zaj_ok,tV⟩
def zak_d0:=(dQS (qAb (dSO 0 (dO 0)) (qAb (dSO 1 dZ) (qAb (dSO 5 (dO 1)) (qAb (dSO 6 dZ) (qAb (dSO 7 dZ) dNil))))) (qAb (qC2 .node) (qAb (dRow .i64 3) dNil)))
def zak_l0:SubQ:=mkL zak_d0 (fun x=>zak_p0 x.1.2.1 x.1.2.2.2.1 x.1.2.2.2.2.1 x.2.1 x.2.2.1) fun x r R kn kx kr=>kx 0 ⟨[sL 5 (.own 1)],[],[.view .node x.2.1,.row .i64 3 r]⟩
def zak_L:Nat→SubQ:=tblL [(0,zak_l0)]
theorem zak_sub0:qBe zak_L zak_G 1 8 45 0 zak_b0:=qAq (show zak_L 0=zak_l0 from by kernel_rfl) fun x R kn kx kr=>qAt (step:=fun y=>qFs x.1.2.1 y.1 y.2.1 x.2.1 y.2.2) (enc:=fun (y:Int × Int × (List Int))=>zak_d0.e ((x.1.1,x.1.2.1,x.1.2.2.1,y.1,y.2.1,x.1.2.2.2.2.2),(x.2.1,y.2.2,x.2.2.2))) (fun y=>by kernel_rfl) (fun y ki=>by simp only [qFs,-eq_self,qAc,qAg,obA,obS,slL,slR,qAd]; kernel_rfl) (x.1.2.2.2.1,x.1.2.2.2.2.1,x.2.2.1)
theorem zak_subs:qAp zak_L zak_G 1 8 45 zak_q:=qAk (show qAr zak_L zak_G 1 8 45 [(0,zak_b0)] from ⟨zak_sub0,tV⟩)
def zak_da:=(qAb (dVC (dCO (dO 0))) (qAb (dVC (dCO dZ)) dNil))
def zak_db:=(qAb (qC2 .node) dNil)
def zak_c:CS:=mkC zak_da zak_db (fun x y=>zak_s y.1 x.2.1) (fun x y r=>.c (.o (.own 1))) fun x y r=>[.view .node y.1,.row .i64 3 r]
theorem zak_val:qAl Tryd.prog 29 zak_c:=qAn zak_chk 8 zak_Gok 1 (fun x=>Nat.le_of_ble_eq_true rfl) (fun y=>rfl) zak_subs fun x y=>by
 simp only [zak_s,-eq_self,qAc,qAg,obA,obS,slL,slR,qAd];kernel_rfl
def zak_w:CQ:=qCt [(0,none,some (.node,46))] (qB9 [false] zak_c)
theorem zak_ok:qAf Tryd.prog 29 zak_w:=qA1 zak_val
def qCn (at_:Int) (key:BA) (next i:Int) (v:List Eng.Node):Option ((Int × Int) ⊕ (Int ⊕ Unit)) :=
 gd (0≤at_∧at_<v.length) <|
 gd ((Int.toNat at_)<v.length) <|
 gd ((Int.toNat at_)<v.length) <|
 bif (((decide (i<((v.getD (Int.toNat at_) (ET.dft .node)).kids))) && (decide ((0:Int)≤next))) && (decide (next<(v.length:Int)))) then (
  gd (0≤next∧next<v.length) <|
  gd ((Int.toNat next)<v.length) <|
  gd ((Int.toNat next)<v.length) <|
  bif decide (((v.getD (Int.toNat next) (ET.dft .node)).key)=key) then (
   some (.inr (.inl next)))
  else (
   (zaj_s v next).bind fun r3 =>
   gd (qAe (i+(1:Int))) <|
   some (.inl (r3,(i+(1:Int))))))
 else (
  some (.inr (.inr ())))
def qDf (at_:Int) (key:BA) (next i:Int) (v:List Eng.Node):Option (Int ⊕ Unit) :=
 qA6 (fun x:(Int × Int)=>qCn at_ key x.1 x.2 v) (next,i)
def json_Member_s (v:(List Eng.Node)) (at_:Int) (key:BA):Option Int :=
 gd (((decide (at_<(0:Int))) || (decide ((v.length:Int)≤at_)))=false→0≤at_∧at_<v.length) <|
 gd (((decide (at_<(0:Int))) || (decide ((v.length:Int)≤at_)))=false→(Int.toNat at_)<v.length) <|
 gd (((decide (at_<(0:Int))) || (decide ((v.length:Int)≤at_)))=false→(Int.toNat at_)<v.length) <|
 bif (((decide (at_<(0:Int))) || (decide ((v.length:Int)≤at_))) || (!decide (((v.getD (Int.toNat at_) (ET.dft .node)).kind)=(7:Int)))) then (
  some (-1:Int))
 else (
  gd (qAe (at_+(1:Int))) <|
  (qDf at_ key (at_+(1:Int)) (0:Int) v).bind fun o4=>(Sum.elim (fun (o4_0:Int) =>
   some o4_0) (fun (o4_1:Unit) =>
   some (-1:Int))) o4)
end
theorem nd_get {v:List Eng.Node} {a:Nat} {n:Eng.Node} (h:v[a]?=some n):v.getD a (ET.dft .node)=n:=by
 rw [List.getD_eq_getElem?_getD,h]; rfl
theorem nd_some {v:List Eng.Node} {a:Nat} (h:a<v.length):∃n,v[a]?=some n∧n∈v∧v.getD a (ET.dft .node)=n :=
 ⟨v[a],List.getElem?_eq_getElem h,List.getElem_mem h,nd_get (List.getElem?_eq_getElem h)⟩
structure OkN (n:Eng.Node):Prop where
 key:n.key.size≤3000000
 text:n.text.size≤3000000
 kids:qAe n.kids
def OkL (v:List Eng.Node):Prop:=v.length≤2000000∧∀n∈v,OkN n
theorem bAt_byte (t:BA) (i:Int) : -1≤bAt t i∧bAt t i≤255:=by
 unfold bAt;split
 ·split
  ·rename_i b _;have:=b.toNat_lt;omega
  ·omega
 ·omega
theorem byteAt_some (t:BA) (at_:Int) (h0:0≤at_):qDr t at_=some (if (t.size:Int)≤at_ then -1 else bAt t at_)∧(0≤(if (t.size:Int)≤at_ then -1 else bAt t at_)→at_<t.size):=by
 have:=bAt_byte t at_;unfold qDr;by_cases h:(t.size:Int)≤at_
 ·rw [deT h,cnT,if_pos h];exact ⟨rfl,fun h=>by omega⟩
 ·rw [deF h,cnF,if_neg h];refine ⟨(qAa (by omega) _).trans (qAa (by unfold qAe; omega) _),fun _=>by omega⟩
end Go.Proofs.YticplgndjpljiaaDoor
