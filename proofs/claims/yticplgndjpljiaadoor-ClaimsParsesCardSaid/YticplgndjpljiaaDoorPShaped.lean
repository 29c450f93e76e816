/-
  The document's shape of a list of nodes: it is always told, and where it is good the list is a tree. No program.
-/
import Derived.Test.YticplgndjpljiaaDoorEngO
import Derived.Test.YticplgndjpljiaaDoorProg
import Derived.Test.YticplgndjpljiaaDoorGC
import Derived.Test.YticplgndjpljiaaDoorEngH
import Derived.Test.YticplgndjpljiaaDoorPDecRef
namespace Go.Proofs.YticplgndjpljiaaDoor
open Go.Eng
set_option linter.unusedVariables false
set_option linter.unusedSimpArgs false
set_option maxRecDepth 100000
noncomputable section
structure qGw where
 at_:Int
 l:(List Eng.Node)
 s:BA
 code:Int
 bad:Int
def zby_q:IQ:=(.seq (rg 4 [oP 2 (.mv (vI 0)),oP 3 (.mv (vI 0)),oP 4 (.mv (vI 0))]) (.seq (.block 0 (.seq (rg 5 [oM 6 t0,oP 7 (.bi .lss t6 (vI 194)),oM 8 t7,oE 9 (.mv t0) 8,oE 10 (.bi .gtr t9 (vI 244)) 8,oP 11 (.pick t8 vT t10),oM 5 t11]) (.cond t5 (.seq (rg 4 [oP 2 (.mv (.v (.int .i64 (-1)))),oP 3 (.mv (vI 0)),oP 4 (.mv (vI 0))]) (.cn [2,3,4] .ret)) (.seq (rg 12 [oM 13 t0,oP 14 (.bi .lss t13 (vI 224)),oM 12 t14]) (.cond t12 (.seq (rg 4 [oP 2 (.mv (vI 1)),oP 3 (.mv (vI 128)),oP 4 (.mv (vI 191))]) (.cn [2,3,4] .ret)) (.seq (rg 15 [oM 16 t0,oP 17 (.bi .eql t16 (vI 224)),oM 15 t17]) (.cond t15 (.seq (rg 4 [oP 2 (.mv (vI 2)),oP 3 (.mv (vI 160)),oP 4 (.mv (vI 191))]) (.cn [2,3,4] .ret)) (.seq (rg 18 [oM 19 t0,oP 20 (.bi .eql t19 (vI 237)),oM 18 t20]) (.cond t18 (.seq (rg 4 [oP 2 (.mv (vI 2)),oP 3 (.mv (vI 128)),oP 4 (.mv (vI 159))]) (.cn [2,3,4] .ret)) (.seq (rg 21 [oM 22 t0,oP 23 (.bi .lss t22 (vI 240)),oM 21 t23]) (.cond t21 (.seq (rg 4 [oP 2 (.mv (vI 2)),oP 3 (.mv (vI 128)),oP 4 (.mv (vI 191))]) (.cn [2,3,4] .ret)) (.seq (rg 24 [oM 25 t0,oP 26 (.bi .eql t25 (vI 240)),oM 24 t26]) (.cond t24 (.seq (rg 4 [oP 2 (.mv (vI 3)),oP 3 (.mv (vI 144)),oP 4 (.mv (vI 191))]) (.cn [2,3,4] .ret)) (.seq (rg 27 [oM 28 t0,oP 29 (.bi .eql t28 (vI 244)),oM 27 t29]) (.cond t27 (.seq (rg 4 [oP 2 (.mv (vI 3)),oP 3 (.mv (vI 128)),oP 4 (.mv (vI 143))]) (.cn [2,3,4] .ret)) .skip))))))))))))))) (.seq (rg 4 [oP 2 (.mv (vI 3)),oP 3 (.mv (vI 128)),oP 4 (.mv (vI 191))]) (.cn [2,3,4] .ret))))
theorem zby_chk:chk Tryd.prog 122 []=some (zby_q.erase,[.tmp 2,.tmp 3,.tmp 4],30):=by kernel_rfl
def zby_s (c:Int):Option (Int × Int × Int) :=
 bif ((decide (c<(194:Int))) || (decide ((244:Int)<c))) then (
  some ((-1:Int),(0:Int),(0:Int)))
 else (
  bif decide (c<(224:Int)) then (
   some ((1:Int),(128:Int),(191:Int)))
  else (
   bif decide (c=(224:Int)) then (
    some ((2:Int),(160:Int),(191:Int)))
   else (
    bif decide (c=(237:Int)) then (
     some ((2:Int),(128:Int),(159:Int)))
    else (
     bif decide (c<(240:Int)) then (
      some ((2:Int),(128:Int),(191:Int)))
     else (
      bif decide (c=(240:Int)) then (
       some ((3:Int),(144:Int),(191:Int)))
      else (
       bif decide (c=(244:Int)) then (
        some ((3:Int),(128:Int),(143:Int)))
       else (
        some ((3:Int),(128:Int),(191:Int)))))))))
def zby_G:Nat→Option CQ:=tblQ []
theorem zby_Gok:∀f C,zby_G f=some C→qAg Tryd.prog f C:=fun f C h=>by cases h
def zby_L:Nat→SubQ:=tblL []
theorem zby_subs:qAq zby_L zby_G 0 5 30 zby_q:=qAk (show qAt zby_L zby_G 0 5 30 [] from tV)
def zby_da:=(qAa (dVC (dCO dZ)) dNil)
def zby_db:=(dNil:Dec Unit (List SB))
def zby_c:CS:=mkC zby_da zby_db (fun x y=>zby_s x.1) (fun x y r=>.tup [.o (.vI r.1),.o (.vI r.2.1),.o (.vI r.2.2)]) fun x y r=>[]
theorem zby_val:qAl Tryd.prog 122 zby_c:=qAn zby_chk 5 zby_Gok 0 (fun x=>Nat.le_of_ble_eq_true rfl) (fun y=>rfl) zby_subs fun x y=>by
 simp only [zby_s,-eq_self,qAc,qAf,obA,obS,slL,slR,qAd]
 kernel_rfl
def zby_w:CQ:=qC3 [] zby_c
theorem zby_ok:qAg Tryd.prog 122 zby_w:=qAx zby_val
def zcc_q:IQ:=(.seq (rg 4 [oP 4 (.alloc 120 [.int .i64 0,.slice none 0 0,.string ⟨#[]⟩,.int .i64 0,.int .i64 0])]) (.seq (rg 0 [oM 5 t0,oM 6 t1,oP 7 (.build [.int .i64 0,.slice none 0 0,.string ⟨#[]⟩,.int .i64 0,.int .i64 0] [(3,1,t5),(4,1,t6)]),oN (.store 5 t4 t7)]) (.canon [(4,some 1,.node,46)] [4] .ret)))
theorem zcc_chk:chk Tryd.prog 95 []=some (zcc_q.erase,[.cell 4 (some 5)],8):=by kernel_rfl
def qEr (e at_:Int):Option qGw :=
 some (⟨(0:Int),[],(⟨#[]⟩:BA),e,at_⟩:qGw)
def zcc_G:Nat→Option CQ:=tblQ []
theorem zcc_Gok:∀f C,zcc_G f=some C→qAg Tryd.prog f C:=fun f C h=>by cases h
def zcc_L:Nat→SubQ:=tblL []
theorem zcc_subs:qAq zcc_L zcc_G 0 5 8 zcc_q:=qAk (show qAt zcc_L zcc_G 0 5 8 [] from tV)
def zcc_da:=(qAa (dVC (dCO dZ)) (qAa (dVC (dCO dZ)) dNil))
def zcc_db:=(dNil:Dec Unit (List SB))
def zcc_c:CS:=mkC zcc_da zcc_db (fun x y=>qEr x.1 x.2.1) (fun x y r=>.c (.agg [.vI r.at_,.own 0,.vS r.s,.vI r.code,.vI r.bad])) fun x y r=>[.row .node 46 r.l]
theorem zcc_val:qAl Tryd.prog 95 zcc_c:=qAn zcc_chk 5 zcc_Gok 0 (fun x=>Nat.le_of_ble_eq_true rfl) (fun y=>rfl) zcc_subs fun x y=>by
 simp only [qEr,-eq_self,qAc,qAf,obA,obS,slL,slR,qAd]
 kernel_rfl
def zcc_w:CQ:=qB1 [] zcc_c
theorem zcc_ok:qAg Tryd.prog 95 zcc_w:=qBe zcc_val
def zbz_q:IQ:=(.seq (rg 4 [oP 4 (.mv (vI 0))]) (.seq (.seq (rg 8 [oM 5 t1,oM 6 t0,oP 7 (.lenS t6),oP 8 (.bi .geq t5 t7)]) (.cond t8 (.seq (rg 4 [oP 4 (.mv (.v (.int .i64 (-1))))]) (.cn [4] .ret)) .skip)) (.seq (rg 4 [oM 9 t0,oM 10 t1,oP 11 (.index t9 t10),oP 12 (.conv false .i64 t11),oM 4 t12]) (.cn [4] .ret))))
theorem zbz_chk:chk Tryd.prog 94 []=some (zbz_q.erase,[.tmp 4],13):=by kernel_rfl
def qDg (t:BA) (at_:Int):Option Int :=
 bif decide ((t.size:Int)≤at_) then (
  some (-1:Int))
 else (
  gd (0≤at_∧at_<t.size) <|
  gd (qAe (bAt t at_)) <|
  some (bAt t at_))
def zbz_G:Nat→Option CQ:=tblQ []
theorem zbz_Gok:∀f C,zbz_G f=some C→qAg Tryd.prog f C:=fun f C h=>by cases h
def zbz_L:Nat→SubQ:=tblL []
theorem zbz_subs:qAq zbz_L zbz_G 0 5 13 zbz_q:=qAk (show qAt zbz_L zbz_G 0 5 13 [] from tV)
def zbz_da:=(qAa (dVC (dCO dS)) (qAa (dVC (dCO dZ)) dNil))
def zbz_db:=(dNil:Dec Unit (List SB))
def zbz_c:CS:=mkC zbz_da zbz_db (fun x y=>qDg x.1 x.2.1) (fun x y r=>.c (.o (.vI r))) fun x y r=>[]
theorem zbz_val:qAl Tryd.prog 94 zbz_c:=qAn zbz_chk 5 zbz_Gok 0 (fun x=>Nat.le_of_ble_eq_true rfl) (fun y=>rfl) zbz_subs fun x y=>by
 simp only [qDg,-eq_self,qAc,qAf,obA,obS,slL,slR,qAd]
 kernel_rfl
def zbz_w:CQ:=qC3 [] zbz_c
theorem zbz_ok:qAg Tryd.prog 94 zbz_w:=qAx zbz_val
def zck_b0:IQ:=(.loop [0,1,4,5,6,7,8] (.seq (.seq (rg 25 [oM 23 t8,oM 24 t5,oP 25 (.bi .leq t23 t24)]) (.cond t25 .skip (.cn [0,1,4,5] (.exit 0)))) (.seq (.block 1 (.seq (rg 9 [oM 28 t0,oM 29 t1,oM 30 t8,oP 31 (.bi .add t29 t30),oP 32 (.call 94 [t28,t31]),oM 9 t32]) (.seq (.seq (rg 34 [oM 33 t9,oP 34 (.bi .lss t33 (vI 0))]) (.cond t34 (.seq (rg 0 [oM 35 t0,oP 36 (.lenS t35),oP 37 (.call 95 [(vI 31),t36]),oN (.store 5 t4 t37)]) (.canon [(4,some 1,.node,46)] [4] .ret)) .skip)) (.seq (.seq (rg 45 [oM 38 t9,oM 39 t6,oP 40 (.bi .lss t38 t39),oM 41 t40,oE 42 (.mv t9) 41,oE 43 (.mv t7) 41,oE 44 (.bi .gtr t42 t43) 41,oP 45 (.pick t41 vT t44)]) (.cond t45 (.seq (rg 0 [oM 46 t1,oP 47 (.call 95 [(vI 32),t46]),oN (.store 5 t4 t47)]) (.canon [(4,some 1,.node,46)] [4] .ret)) .skip)) (.seq (rg 6 [oP 6 (.mv (vI 128))]) (rg 7 [oP 7 (.mv (vI 191))])))))) (rg 8 [oM 26 t8,oP 27 (.bi .add t26 (vI 1)),oM 8 t27]))))
def zck_q:IQ:=(.seq (rg 4 [oP 4 (.alloc 120 [.int .i64 0,.slice none 0 0,.string ⟨#[]⟩,.int .i64 0,.int .i64 0])]) (.seq (rg 7 [oM 11 t0,oM 12 t1,oP 13 (.index t11 t12),oP 14 (.conv false .i64 t13),oP 15 (.call 122 [t14]),oM 10 t15,oP 16 (.extract t10 0),oP 17 (.extract t10 1),oP 18 (.extract t10 2),oM 5 t16,oM 6 t17,oM 7 t18]) (.seq (.seq (rg 20 [oM 19 t5,oP 20 (.bi .lss t19 (vI 0))]) (.cond t20 (.seq (rg 0 [oM 21 t1,oP 22 (.call 95 [(vI 32),t21]),oN (.store 5 t4 t22)]) (.canon [(4,some 1,.node,46)] [4] .ret)) .skip)) (.seq (.seq (rg 8 [oP 8 (.mv (vI 1))]) (.block 0 (.cn [0,1,4,5,6,7,8] (.sub 0 zck_b0)))) (.seq (rg 0 [oM 48 t1,oM 49 t5,oP 50 (.bi .add t48 t49),oP 51 (.bi .add t50 (vI 1)),oM 52 t0,oM 53 t1,oM 54 t1,oM 55 t5,oP 56 (.bi .add t54 t55),oP 57 (.bi .add t56 (vI 1)),oP 58 (.sub none t52 (some t53) (some t57)),oP 59 (.build [.int .i64 0,.slice none 0 0,.string ⟨#[]⟩,.int .i64 0,.int .i64 0] [(0,1,t51),(2,1,t58)]),oN (.store 5 t4 t59)]) (.canon [(4,some 1,.node,46)] [4] .ret))))))
theorem zck_chk:chk Tryd.prog 109 []=some (zck_q.erase,[.cell 4 (some 5)],60):=by kernel_rfl
def qDe (t:BA) (at_ n low high i:Int):Option ((Int × Int × Int) ⊕ ((Int × BA × Int × Int × (List Eng.Node)) ⊕ Unit)) :=
 bif decide (i≤n) then (
  gd (qAe (at_+i)) <|
  (qDg t (at_+i)).bind fun r18 =>
  bif decide (r18<(0:Int)) then (
   (qEr (31:Int) (t.size:Int)).bind fun r19 =>
   some (.inr (.inl (r19.at_,r19.s,r19.code,r19.bad,r19.l))))
  else (
   bif ((decide (r18<low)) || (decide (high<r18))) then (
    (qEr (32:Int) at_).bind fun r20 =>
    some (.inr (.inl (r20.at_,r20.s,r20.code,r20.bad,r20.l))))
   else (
    gd (qAe (i+(1:Int))) <|
    some (.inl ((128:Int),(191:Int),(i+(1:Int)))))))
 else (
  some (.inr (.inr ())))
def zck_p0 (t:BA) (at_ n low high i:Int):Option ((Int × BA × Int × Int × (List Eng.Node)) ⊕ Unit) :=
 qA6 (fun x:(Int × Int × Int)=>qDe t at_ n x.1 x.2.1 x.2.2) (low,high,i)
def zck_s (t:BA) (at_:Int):Option qGw :=
 gd (0≤at_∧at_<t.size) <|
 gd (qAe (bAt t at_)) <|
 (zby_s (bAt t at_)).bind fun r16 =>
 bif decide (r16.1<(0:Int)) then (
  (qEr (32:Int) at_).bind fun r17 =>
  some r17)
 else (
  (zck_p0 t at_ r16.1 r16.2.1 r16.2.2 (1:Int)).bind fun o21=>(Sum.elim (fun (o21_0:Int × BA × Int × Int × (List Eng.Node)) =>
   some (⟨o21_0.1,o21_0.2.2.2.2,o21_0.2.1,o21_0.2.2.1,o21_0.2.2.2.1⟩:qGw)) (fun (o21_1:Unit) =>
   gd (qAe (at_+r16.1)) <|
   gd (qAe ((at_+r16.1)+(1:Int))) <|
   gd (qAe (at_+r16.1)) <|
   gd (qAe ((at_+r16.1)+(1:Int))) <|
   gd (0≤at_∧at_≤((at_+r16.1)+(1:Int))∧((at_+r16.1)+(1:Int))≤t.size) <|
   some (⟨((at_+r16.1)+(1:Int)),[],(t.extract (Int.toNat at_) (Int.toNat ((at_+r16.1)+(1:Int)))),(0:Int),(0:Int)⟩:qGw))) o21)
def zck_G:Nat→Option CQ:=tblQ [(122,zby_w),(95,zcc_w),(94,zbz_w)]
theorem zck_Gok:∀f C,zck_G f=some C→qAg Tryd.prog f C:=qAi ⟨zby_ok,zcc_ok,zbz_ok,tV⟩
def zck_d0:=(dQS (qAa (dSO 0 dS) (qAa (dSO 1 dZ) (qAa (dSO 4 (dH 0 0)) (qAa (dSO 5 dZ) (qAa (dSO 6 dZ) (qAa (dSO 7 dZ) (qAa (dSO 8 dZ) dNil))))))) (qAa (qAp 120 (qAa dZ (qAa dNS (qAa dS (qAa dZ (qAa dZ dNil)))))) dNil))
def zck_l0:SubQ:=mkL zck_d0 (fun x=>zck_p0 x.1.1 x.1.2.1 x.1.2.2.2.1 x.1.2.2.2.2.1 x.1.2.2.2.2.2.1 x.1.2.2.2.2.2.2.1) fun x r R kn kx kr=>(Sum.elim (fun (r_0:Int × BA × Int × Int × (List Eng.Node))=>kr ⟨[sL 4 (.hd 0 0)],[],[.cells 120 [.vI r_0.1,.own 1,.vS r_0.2.1,.vI r_0.2.2.1,.vI r_0.2.2.2.1],.row .node 46 r_0.2.2.2.2]⟩) (fun (r_1:Unit)=>kx 0 ⟨[sL 0 (.vS x.1.1),sL 1 (.vI x.1.2.1),sL 4 (.hd 0 0),sL 5 (.vI x.1.2.2.2.1)],[],[.cells 120 [.vI x.2.1.1,.val (.slice none 0 0),.vS x.2.1.2.2.1,.vI x.2.1.2.2.2.1,.vI x.2.1.2.2.2.2.1]]⟩)) r
def zck_L:Nat→SubQ:=tblL [(0,zck_l0)]
theorem zck_sub0:qBb zck_L zck_G 0 10 60 0 zck_b0:=qAr (show zck_L 0=zck_l0 from by kernel_rfl) fun x R kn kx kr=>qAs (step:=fun y=>qDe x.1.1 x.1.2.1 x.1.2.2.2.1 y.1 y.2.1 y.2.2) (enc:=fun (y:Int × Int × Int)=>zck_d0.e ((x.1.1,x.1.2.1,x.1.2.2.1,x.1.2.2.2.1,y.1,y.2.1,y.2.2,x.1.2.2.2.2.2.2.2),x.2)) (fun y=>by kernel_rfl) (fun y ki=>by simp only [qDe,-eq_self,qAc,qAf,obA,obS,slL,slR,qAd]; kernel_rfl) (x.1.2.2.2.2.1,x.1.2.2.2.2.2.1,x.1.2.2.2.2.2.2.1)
theorem zck_subs:qAq zck_L zck_G 0 10 60 zck_q:=qAk (show qAt zck_L zck_G 0 10 60 [(0,zck_b0)] from ⟨zck_sub0,tV⟩)
def zck_da:=(qAa (dVC (dCO dS)) (qAa (dVC (dCO dZ)) dNil))
def zck_db:=(dNil:Dec Unit (List SB))
def zck_c:CS:=mkC zck_da zck_db (fun x y=>zck_s x.1 x.2.1) (fun x y r=>.c (.agg [.vI r.at_,.own 0,.vS r.s,.vI r.code,.vI r.bad])) fun x y r=>[.row .node 46 r.l]
theorem zck_val:qAl Tryd.prog 109 zck_c:=qAn zck_chk 10 zck_Gok 0 (fun x=>Nat.le_of_ble_eq_true rfl) (fun y=>rfl) zck_subs fun x y=>by
 simp only [zck_s,-eq_self,qAc,qAf,obA,obS,slL,slR,qAd]
 kernel_rfl
def zck_w:CQ:=qB1 [] zck_c
theorem zck_ok:qAg Tryd.prog 109 zck_w:=qBe zck_val
def qBf (s:BA) (at_:Int):Option (Int ⊕ (Bool ⊕ Unit)) :=
 bif decide (at_<(s.size:Int)) then (
  gd (0≤at_∧at_<s.size) <|
  bif decide ((bAt s at_)<(128:Int)) then (
   gd (qAe (at_+(1:Int))) <|
   some (.inl (at_+(1:Int))))
  else (
   (zck_s s at_).bind fun r1 =>
   bif (!decide (r1.code=(0:Int))) then (
    some (.inr (.inl false)))
   else (
    some (.inl r1.at_))))
 else (
  some (.inr (.inr ())))
def qBq (s:BA) (at_:Int):Option (Bool ⊕ Unit) :=
 qA6 (fun x:Int=>qBf s x) at_
def qEv (s:BA):Option Bool :=
 (qBq s (0:Int)).bind fun o2=>(Sum.elim (fun (o2_0:Bool) =>
  some o2_0) (fun (o2_1:Unit) =>
  some true)) o2
def qDr (n:Eng.Node):Option Bool :=
 bif ((((decide (n.kind<(1:Int))) || (decide ((7:Int)<n.kind))) || (decide (n.kids<(0:Int)))) || ((decide ((0:Int)<n.kids)) && (decide (n.kind<(6:Int))))) then (
  some false)
 else (
  (zbp_s n.text).bind fun r1 =>
  (qDs n.text).bind fun r2 =>
  (qEv n.text).bind fun r3 =>
  bif decide (n.kind=(4:Int)) then (
   some ((r2 && (r1.2 == n.whole)) && (decide (r1.1=n.int))))
  else (
   bif (n.whole || (!decide (n.int=(0:Int)))) then (
    some false)
   else (
    bif decide (n.kind=(5:Int)) then (
     some r3)
    else (
     some (decide (n.text=(⟨#[]⟩:BA)))))))
def zbx_b0:IQ:=(.loop [0,1,5] (.seq (.seq (rg 9 [oM 6 t5,oM 7 t0,oP 8 (.len t7),oP 9 (.bi .lss t6 t8)]) (.cond t9 .skip (.cn [] (.exit 0)))) (.seq (.block 1 (.seq (rg 17 [oM 12 t0,oM 13 t5,oP 14 (.iaddr 1 t12 t13),oP 15 (.load none t14),oM 16 t1,oP 17 (.bi .eql t15 t16)]) (.cond t17 (.seq (rg 4 [oP 4 (.mv vT)]) (.cn [4] .ret)) .skip))) (rg 5 [oM 10 t5,oP 11 (.bi .add t10 (vI 1)),oM 5 t11]))))
def zbx_q:IQ:=(.seq (rg 4 [oP 4 (.mv vF)]) (.seq (.seq (rg 5 [oP 5 (.mv (vI 0))]) (.block 0 (.cn [0,1,5] (.sub 0 zbx_b0)))) (.seq (rg 4 [oP 4 (.mv vF)]) (.cn [4] .ret))))
theorem zbx_chk:chk Tryd.prog 88 []=some (zbx_q.erase,[.tmp 4],18):=by kernel_rfl
def qD8 (s:BA) (i:Int) (l:List BA):Option (Int ⊕ (Bool ⊕ Unit)) :=
 bif decide (i<(l.length:Int)) then (
  gd (0≤i∧i<l.length) <|
  gd ((Int.toNat i)<l.length) <|
  bif decide ((l.getD (Int.toNat i) (ET.dft .str))=s) then (
   some (.inr (.inl true)))
  else (
   gd (qAe (i+(1:Int))) <|
   some (.inl (i+(1:Int)))))
 else (
  some (.inr (.inr ())))
def zbx_p0 (s:BA) (i:Int) (l:List BA):Option (Bool ⊕ Unit) :=
 qA6 (fun x:Int=>qD8 s x l) i
def zbx_s (l:(List BA)) (s:BA):Option Bool :=
 (zbx_p0 s (0:Int) l).bind fun o1=>(Sum.elim (fun (o1_0:Bool) =>
  some o1_0) (fun (o1_1:Unit) =>
  some false)) o1
def zbx_G:Nat→Option CQ:=tblQ []
theorem zbx_Gok:∀f C,zbx_G f=some C→qAg Tryd.prog f C:=fun f C h=>by cases h
def zbx_d0:=(dQS (qAa (dSO 0 (dO 0)) (qAa (dSO 1 dS) (qAa (dSO 5 dZ) dNil))) (qAa (qAz .str) dNil))
def zbx_l0:SubQ:=mkL zbx_d0 (fun x=>zbx_p0 x.1.2.1 x.1.2.2.1 x.2.1) fun x r R kn kx kr=>(Sum.elim (fun (r_0:Bool)=>kr ⟨[sL 4 (.vB r_0)],[],[.view .str x.2.1]⟩) (fun (r_1:Unit)=>kx 0 ⟨[],[],[.view .str x.2.1]⟩)) r
def zbx_L:Nat→SubQ:=tblL [(0,zbx_l0)]
theorem zbx_sub0:qBb zbx_L zbx_G 1 6 18 0 zbx_b0:=qAr (show zbx_L 0=zbx_l0 from by kernel_rfl) fun x R kn kx kr=>qAs (step:=fun y=>qD8 x.1.2.1 y x.2.1) (enc:=fun (y:Int)=>zbx_d0.e ((x.1.1,x.1.2.1,y,x.1.2.2.2),x.2)) (fun y=>by kernel_rfl) (fun y ki=>by simp only [qD8,-eq_self,qAc,qAf,obA,obS,slL,slR,qAd]; kernel_rfl) x.1.2.2.1
theorem zbx_subs:qAq zbx_L zbx_G 1 6 18 zbx_q:=qAk (show qAt zbx_L zbx_G 1 6 18 [(0,zbx_b0)] from ⟨zbx_sub0,tV⟩)
def zbx_da:=(qAa (dVC (dCO (dO 0))) (qAa (dVC (dCO dS)) dNil))
def zbx_db:=(qAa (qAz .str) dNil)
def zbx_c:CS:=mkC zbx_da zbx_db (fun x y=>zbx_s y.1 x.2.1) (fun x y r=>.c (.o (.vB r))) fun x y r=>[.view .str y.1]
theorem zbx_val:qAl Tryd.prog 88 zbx_c:=qAn zbx_chk 6 zbx_Gok 1 (fun x=>Nat.le_of_ble_eq_true rfl) (fun y=>rfl) zbx_subs fun x y=>by
 simp only [zbx_s,-eq_self,qAc,qAf,obA,obS,slL,slR,qAd]
 kernel_rfl
def zbx_w:CQ:=qB3 [(0,none,some (.str,9))] (qC3 [false] zbx_c)
theorem zbx_ok:qAg Tryd.prog 88 zbx_w:=qCi zbx_val
def zbs_da:=(qAa (dVC (dCO (dO 0))) (qAa (dVC (dCO dZ)) dNil))
def zbs_db:=(qAa (qAz .node) dNil)
def zbs_cs (self:(List Eng.Node)→Int→Option Int):CS:=mkC zbs_da zbs_db (fun x y=>self y.1 x.2.1) (fun x y r=>.c (.o (.vI r))) fun x y r=>[.view .node y.1]
def zbs_ws (self:(List Eng.Node)→Int→Option Int):CQ:=qB3 [(0,none,some (.node,46))] (qC3 [false] (zbs_cs self))
def zbs_b0:IQ:=(.loop [0,1,5,6] (.seq (.seq (rg 27 [oM 17 t6,oM 18 t0,oM 19 t1,oP 20 (.iaddr 6 t18 t19),oP 21 (.faddr 5 t20),oP 22 (.load none t21),oP 23 (.bi .lss t17 t22),oM 24 t23,oF 25 (.mv t5) 24,oF 26 (.bi .geq t25 (vI 0)) 24,oP 27 (.pick t24 t26 vF)]) (.cond t27 .skip (.cn [5] (.exit 0)))) (.seq (.block 1 (rg 5 [oM 30 t0,oM 31 t5,oP 32 (.call 74 [t30,t31]),oM 5 t32])) (rg 6 [oM 28 t6,oP 29 (.bi .add t28 (vI 1)),oM 6 t29]))))
def zbs_q:IQ:=(.seq (rg 4 [oP 4 (.mv (vI 0))]) (.seq (.seq (rg 14 [oM 7 t1,oP 8 (.bi .lss t7 (vI 0)),oM 9 t8,oE 10 (.mv t1) 9,oE 11 (.mv t0) 9,oE 12 (.len t11) 9,oE 13 (.bi .geq t10 t12) 9,oP 14 (.pick t9 vT t13)]) (.cond t14 (.seq (rg 4 [oP 4 (.mv (.v (.int .i64 (-1))))]) (.cn [4] .ret)) .skip)) (.seq (rg 5 [oM 15 t1,oP 16 (.bi .add t15 (vI 1)),oM 5 t16]) (.seq (.seq (rg 6 [oP 6 (.mv (vI 0))]) (.block 0 (.cn [0,1,5,6] (.sub 0 zbs_b0)))) (.seq (rg 4 [oM 33 t5,oM 4 t33]) (.cn [4] .ret))))))
theorem zbs_chk:chk Tryd.prog 74 []=some (zbs_q.erase,[.tmp 4],34):=by kernel_rfl
def qFq (self:(List Eng.Node)→Int→Option Int) (at_ next i:Int) (v:List Eng.Node):Option ((Int × Int) ⊕ Int) :=
 gd (0≤at_∧at_<v.length) <|
 gd ((Int.toNat at_)<v.length) <|
 gd ((Int.toNat at_)<v.length) <|
 bif ((decide (i<((v.getD (Int.toNat at_) (ET.dft .node)).kids))) && (decide ((0:Int)≤next))) then (
  (self v next).bind fun r3 =>
  gd (qAe (i+(1:Int))) <|
  some (.inl (r3,(i+(1:Int)))))
 else (
  some (.inr next))
def zbs_p0 (self:(List Eng.Node)→Int→Option Int) (at_ next i:Int) (v:List Eng.Node):Option Int :=
 qA6 (fun x:(Int × Int)=>qFq self at_ x.1 x.2 v) (next,i)
def zbs_t (self:(List Eng.Node)→Int→Option Int) (v:(List Eng.Node)) (at_:Int):Option Int :=
 bif ((decide (at_<(0:Int))) || (decide ((v.length:Int)≤at_))) then (
  some (-1:Int))
 else (
  gd (qAe (at_+(1:Int))) <|
  (zbs_p0 self at_ (at_+(1:Int)) (0:Int) v).bind fun o4 =>
  some o4)
def zbs_G (self:(List Eng.Node)→Int→Option Int):Nat→Option CQ:=tblQ [(74,zbs_ws self)]
theorem zbs_Gok (self:(List Eng.Node)→Int→Option Int) (hself:qAg Tryd.prog 74 (zbs_ws self)):∀f C,(zbs_G self) f=some C→qAg Tryd.prog f C:=qAi ⟨hself,tV⟩
def zbs_d0:=(dQS (qAa (dSO 0 (dO 0)) (qAa (dSO 1 dZ) (qAa (dSO 5 dZ) (qAa (dSO 6 dZ) dNil)))) (qAa (qAz .node) dNil))
def zbs_l0 (self:(List Eng.Node)→Int→Option Int):SubQ:=mkL zbs_d0 (fun x=>zbs_p0 self x.1.2.1 x.1.2.2.1 x.1.2.2.2.1 x.2.1) fun x r R kn kx kr=>kx 0 ⟨[sL 5 (.vI r)],[],[.view .node x.2.1]⟩
def zbs_L (self:(List Eng.Node)→Int→Option Int):Nat→SubQ:=tblL [(0,zbs_l0 self)]
theorem zbs_sub0 (self:(List Eng.Node)→Int→Option Int):qBb (zbs_L self) (zbs_G self) 1 7 34 0 zbs_b0:=qAr (show (zbs_L self) 0=(zbs_l0 self) from by kernel_rfl) fun x R kn kx kr=>qAs (step:=fun y=>qFq self x.1.2.1 y.1 y.2 x.2.1) (enc:=fun (y:Int × Int)=>zbs_d0.e ((x.1.1,x.1.2.1,y.1,y.2,x.1.2.2.2.2),x.2)) (fun y=>by kernel_rfl) (fun y ki=>by simp only [qFq,-eq_self,qAc,qAf,obA,obS,slL,slR,qAd]; kernel_rfl) (x.1.2.2.1,x.1.2.2.2.1)
theorem zbs_subs (self:(List Eng.Node)→Int→Option Int):qAq (zbs_L self) (zbs_G self) 1 7 34 zbs_q:=qAk (show qAt (zbs_L self) (zbs_G self) 1 7 34 [(0,zbs_b0)] from ⟨(zbs_sub0 self),tV⟩)
theorem zbs_val_t (self:(List Eng.Node)→Int→Option Int) (hself:qAg Tryd.prog 74 (zbs_ws self)):qAl Tryd.prog 74 (zbs_cs (zbs_t self)):=qAn zbs_chk 7 (zbs_Gok self hself) 1 (fun x=>Nat.le_of_ble_eq_true rfl) (fun y=>rfl) (zbs_subs self) fun x y=>by
 simp only [zbs_t,-eq_self,qAc,qAf,obA,obS,slL,slR,qAd]
 kernel_rfl
def zbs_n:Nat→(List Eng.Node)→Int→Option Int
 | 0=>fun _ _=>none
 | n+1=>zbs_t (zbs_n n)
def zbs_s (v:(List Eng.Node)) (at_:Int):Option Int:=evt fun n=>zbs_n n v at_
theorem zbs_valn:∀n,qAl Tryd.prog 74 (zbs_cs (zbs_n n))
 | 0=>qAl.zero fun args hp R k=>by
  show ((Dec.d zbs_da args).bind fun x=>(Dec.d zbs_db hp).bind fun y=>none)=none
  cases Dec.d zbs_da args with
  | none=>rfl
  | some x=>cases Dec.d zbs_db hp <;> rfl
 | n+1=>zbs_val_t (zbs_n n) (qCi (zbs_valn n))
theorem zbs_val:qAl Tryd.prog 74 (zbs_cs zbs_s):=qAl.evt zbs_valn (fun args hp R k=>by
  show ((Dec.d zbs_da args).bind fun x=>(Dec.d zbs_db hp).bind fun y=>_)=(((Dec.d zbs_da args).bind fun x=>(Dec.d zbs_db hp).bind fun y=>_):Option (SV × List SB)).bind _
  cases Dec.d zbs_da args with
  | none=>rfl
  | some x =>
   cases Dec.d zbs_db hp with
   | none=>rfl
   | some y=>simp only [obS,Option.bind_assoc]) fun args hp v hp' h=>by
  obtain ⟨x,h1,h2⟩:=Option.bind_eq_some_iff.1 h
  obtain ⟨y,h3,h4⟩:=Option.bind_eq_some_iff.1 h2
  obtain ⟨r,h5,h6⟩:=Option.bind_eq_some_iff.1 h4
  obtain ⟨n,h7⟩:=evt_some h5
  refine ⟨n,?_⟩
  show ((Dec.d zbs_da args).bind fun x=>(Dec.d zbs_db hp).bind fun y=>_)=_
  rw [h1]
  simp only [obS]
  rw [h3]
  simp only [obS]
  exact (congrArg (fun z=>Option.bind z _) h7).trans h6
def zbs_w:CQ:=zbs_ws zbs_s
theorem zbs_ok:qAg Tryd.prog 74 zbs_w:=qCi zbs_val
def zbt_b0:IQ:=(.loop [0,1,5,6,7] (.seq (.seq (rg 35 [oM 19 t7,oM 20 t0,oM 21 t1,oP 22 (.iaddr 6 t20 t21),oP 23 (.faddr 5 t22),oP 24 (.load none t23),oP 25 (.bi .lss t19 t24),oM 26 t25,oF 27 (.mv t6) 26,oF 28 (.bi .geq t27 (vI 0)) 26,oP 29 (.pick t26 t28 vF),oM 30 t29,oF 31 (.mv t6) 30,oF 32 (.mv t0) 30,oF 33 (.len t32) 30,oF 34 (.bi .lss t31 t33) 30,oP 35 (.pick t30 t34 vF)]) (.cond t35 .skip (.cn [5] (.exit 0)))) (.seq (.block 1 (.seq (rg 5 [oM 38 t5,oM 39 t6,oP 40 (.bslice 3 1 1 [.int .i64 0] [(0,t39)]),oP 41 (.append 3 1 8 [.int .i64 0] t38 t40),oM 5 t41]) (rg 6 [oM 42 t0,oM 43 t6,oP 44 (.call 74 [t42,t43]),oM 6 t44]))) (rg 7 [oM 36 t7,oP 37 (.bi .add t36 (vI 1)),oM 7 t37]))))
def zbt_q:IQ:=(.seq (rg 4 [oP 4 (.mv (.v (.slice none 0 0)))]) (.seq (rg 5 [oP 5 (.mv (.v (.slice none 0 0)))]) (.seq (.seq (rg 15 [oM 8 t1,oP 9 (.bi .lss t8 (vI 0)),oM 10 t9,oE 11 (.mv t1) 10,oE 12 (.mv t0) 10,oE 13 (.len t12) 10,oE 14 (.bi .geq t11 t13) 10,oP 15 (.pick t10 vT t14)]) (.cond t15 (.seq (rg 4 [oM 16 t5,oM 4 t16]) (.canon [(4,none,.i64,3)] [4] .ret)) .skip)) (.seq (rg 6 [oM 17 t1,oP 18 (.bi .add t17 (vI 1)),oM 6 t18]) (.seq (.seq (rg 7 [oP 7 (.mv (vI 0))]) (.block 0 (.canon [(5,none,.i64,3)] [0,1,5,6,7] (.sub 0 zbt_b0)))) (.seq (rg 4 [oM 45 t5,oM 4 t45]) (.canon [(4,none,.i64,3)] [4] .ret)))))))
theorem zbt_chk:chk Tryd.prog 49 []=some (zbt_q.erase,[.tmp 4],46):=by kernel_rfl
def qFg (at_ next i:Int) (v:List Eng.Node) (out:List Int):Option ((Int × Int × (List Int)) ⊕ ((List Int))) :=
 gd (0≤at_∧at_<v.length) <|
 gd ((Int.toNat at_)<v.length) <|
 gd ((Int.toNat at_)<v.length) <|
 bif (((decide (i<((v.getD (Int.toNat at_) (ET.dft .node)).kids))) && (decide ((0:Int)≤next))) && (decide (next<(v.length:Int)))) then (
  gd (out.length+([next]:List Int).length≤9223372036854775807∧(out.length+([next]:List Int).length)*8≤140737488355328) <|
  (zbs_s v next).bind fun r5 =>
  gd (qAe (i+(1:Int))) <|
  some (.inl (r5,(i+(1:Int)),(out++[next]))))
 else (
  some (.inr out))
def zbt_p0 (at_ next i:Int) (v:List Eng.Node) (out:List Int):Option ((List Int)) :=
 qA6 (fun x:(Int × Int × (List Int))=>qFg at_ x.1 x.2.1 v x.2.2) (next,i,out)
def zbt_s (v:(List Eng.Node)) (at_:Int):Option ((List Int)) :=
 bif ((decide (at_<(0:Int))) || (decide ((v.length:Int)≤at_))) then (
  some [])
 else (
  gd (qAe (at_+(1:Int))) <|
  (zbt_p0 at_ (at_+(1:Int)) (0:Int) v []).bind fun o6 =>
  some o6)
def zbt_G:Nat→Option CQ:=tblQ [(74,zbs_w)]
theorem zbt_Gok:∀f C,zbt_G f=some C→qAg Tryd.prog f C:=qAi ⟨zbs_ok,tV⟩
def zbt_d0:=(dQS (qAa (dSO 0 (dO 0)) (qAa (dSO 1 dZ) (qAa (dSO 5 (dO 1)) (qAa (dSO 6 dZ) (qAa (dSO 7 dZ) dNil))))) (qAa (qAz .node) (qAa (dRow .i64 3) dNil)))
def zbt_l0:SubQ:=mkL zbt_d0 (fun x=>zbt_p0 x.1.2.1 x.1.2.2.2.1 x.1.2.2.2.2.1 x.2.1 x.2.2.1) fun x r R kn kx kr=>kx 0 ⟨[sL 5 (.own 1)],[],[.view .node x.2.1,.row .i64 3 r]⟩
def zbt_L:Nat→SubQ:=tblL [(0,zbt_l0)]
theorem zbt_sub0:qBb zbt_L zbt_G 1 8 46 0 zbt_b0:=qAr (show zbt_L 0=zbt_l0 from by kernel_rfl) fun x R kn kx kr=>qAs (step:=fun y=>qFg x.1.2.1 y.1 y.2.1 x.2.1 y.2.2) (enc:=fun (y:Int × Int × (List Int))=>zbt_d0.e ((x.1.1,x.1.2.1,x.1.2.2.1,y.1,y.2.1,x.1.2.2.2.2.2),(x.2.1,y.2.2,x.2.2.2))) (fun y=>by kernel_rfl) (fun y ki=>by simp only [qFg,-eq_self,qAc,qAf,obA,obS,slL,slR,qAd]; kernel_rfl) (x.1.2.2.2.1,x.1.2.2.2.2.1,x.2.2.1)
theorem zbt_subs:qAq zbt_L zbt_G 1 8 46 zbt_q:=qAk (show qAt zbt_L zbt_G 1 8 46 [(0,zbt_b0)] from ⟨zbt_sub0,tV⟩)
def zbt_da:=(qAa (dVC (dCO (dO 0))) (qAa (dVC (dCO dZ)) dNil))
def zbt_db:=(qAa (qAz .node) dNil)
def zbt_c:CS:=mkC zbt_da zbt_db (fun x y=>zbt_s y.1 x.2.1) (fun x y r=>.c (.o (.own 1))) fun x y r=>[.view .node y.1,.row .i64 3 r]
theorem zbt_val:qAl Tryd.prog 49 zbt_c:=qAn zbt_chk 8 zbt_Gok 1 (fun x=>Nat.le_of_ble_eq_true rfl) (fun y=>rfl) zbt_subs fun x y=>by
 simp only [zbt_s,-eq_self,qAc,qAf,obA,obS,slL,slR,qAd]
 kernel_rfl
def zbt_w:CQ:=qB3 [(0,none,some (.node,46))] (qB1 [false] zbt_c)
theorem zbt_ok:qAg Tryd.prog 49 zbt_w:=qAy zbt_val
def zbu_b0:IQ:=(.loop [0,2,7,8] (.seq (.seq (rg 31 [oM 28 t8,oM 29 t7,oP 30 (.len t29),oP 31 (.bi .lss t28 t30)]) (.cond t31 .skip (.cn [] (.exit 0)))) (.seq (.block 1 (.seq (rg 43 [oM 34 t0,oM 35 t7,oM 36 t8,oP 37 (.iaddr 1 t35 t36),oP 38 (.load none t37),oP 39 (.iaddr 6 t34 t38),oP 40 (.faddr 1 t39),oP 41 (.load none t40),oM 42 t2,oP 43 (.bi .eql t41 t42)]) (.cond t43 (.seq (rg 6 [oM 44 t7,oM 45 t8,oP 46 (.iaddr 1 t44 t45),oP 47 (.load none t46),oM 6 t47]) (.cn [6] .ret)) .skip))) (rg 8 [oM 32 t8,oP 33 (.bi .add t32 (vI 1)),oM 8 t33]))))
def zbu_q:IQ:=(.seq (rg 6 [oP 6 (.mv (vI 0))]) (.seq (.seq (rg 24 [oM 9 t1,oP 10 (.bi .lss t9 (vI 0)),oM 11 t10,oE 12 (.mv t1) 11,oE 13 (.mv t0) 11,oE 14 (.len t13) 11,oE 15 (.bi .geq t12 t14) 11,oP 16 (.pick t11 vT t15),oM 17 t16,oE 18 (.mv t0) 17,oE 19 (.mv t1) 17,oE 20 (.iaddr 6 t18 t19) 17,oE 21 (.faddr 0 t20) 17,oE 22 (.load none t21) 17,oE 23 (.bi .neq t22 (vI 7)) 17,oP 24 (.pick t17 vT t23)]) (.cond t24 (.seq (rg 6 [oP 6 (.mv (.v (.int .i64 (-1))))]) (.cn [6] .ret)) .skip)) (.seq (rg 7 [oM 25 t0,oM 26 t1,oP 27 (.call 49 [t25,t26]),oM 7 t27]) (.seq (.seq (rg 8 [oP 8 (.mv (vI 0))]) (.block 0 (.cn [0,2,7,8] (.sub 0 zbu_b0)))) (.seq (rg 6 [oP 6 (.mv (.v (.int .i64 (-1))))]) (.cn [6] .ret))))))
theorem zbu_chk:chk Tryd.prog 85 []=some (zbu_q.erase,[.tmp 6],48):=by kernel_rfl
def qD1 (key:BA) (i:Int) (v:List Eng.Node) (l:List Int):Option (Int ⊕ (Int ⊕ Unit)) :=
 bif decide (i<(l.length:Int)) then (
  gd (0≤i∧i<l.length) <|
  gd ((Int.toNat i)<l.length) <|
  gd (0≤(l.getD (Int.toNat i) (ET.dft .i64))∧(l.getD (Int.toNat i) (ET.dft .i64))<v.length) <|
  gd ((Int.toNat (l.getD (Int.toNat i) (ET.dft .i64)))<v.length) <|
  gd ((Int.toNat (l.getD (Int.toNat i) (ET.dft .i64)))<v.length) <|
  bif decide (((v.getD (Int.toNat (l.getD (Int.toNat i) (ET.dft .i64))) (ET.dft .node)).key)=key) then (
   gd (0≤i∧i<l.length) <|
   gd ((Int.toNat i)<l.length) <|
   some (.inr (.inl (l.getD (Int.toNat i) (ET.dft .i64)))))
  else (
   gd (qAe (i+(1:Int))) <|
   some (.inl (i+(1:Int)))))
 else (
  some (.inr (.inr ())))
def zbu_p0 (key:BA) (i:Int) (v:List Eng.Node) (l:List Int):Option (Int ⊕ Unit) :=
 qA6 (fun x:Int=>qD1 key x v l) i
def zbu_s (v:(List Eng.Node)) (at_:Int) (key:BA):Option Int :=
 gd (((decide (at_<(0:Int))) || (decide ((v.length:Int)≤at_)))=false→0≤at_∧at_<v.length) <|
 gd (((decide (at_<(0:Int))) || (decide ((v.length:Int)≤at_)))=false→(Int.toNat at_)<v.length) <|
 gd (((decide (at_<(0:Int))) || (decide ((v.length:Int)≤at_)))=false→(Int.toNat at_)<v.length) <|
 bif (((decide (at_<(0:Int))) || (decide ((v.length:Int)≤at_))) || (!decide (((v.getD (Int.toNat at_) (ET.dft .node)).kind)=(7:Int)))) then (
  some (-1:Int))
 else (
  (zbt_s v at_).bind fun r2 =>
  (zbu_p0 key (0:Int) v r2).bind fun o3=>(Sum.elim (fun (o3_0:Int) =>
   some o3_0) (fun (o3_1:Unit) =>
   some (-1:Int))) o3)
def zbu_G:Nat→Option CQ:=tblQ [(49,zbt_w)]
theorem zbu_Gok:∀f C,zbu_G f=some C→qAg Tryd.prog f C:=qAi ⟨zbt_ok,tV⟩
def zbu_d0:=(dQS (qAa (dSO 0 (dO 0)) (qAa (dSO 2 dS) (qAa (dSO 7 (dO 1)) (qAa (dSO 8 dZ) dNil)))) (qAa (qAz .node) (qAa (dRow .i64 3) dNil)))
def zbu_l0:SubQ:=mkL zbu_d0 (fun x=>zbu_p0 x.1.2.1 x.1.2.2.2.1 x.2.1 x.2.2.1) fun x r R kn kx kr=>(Sum.elim (fun (r_0:Int)=>kr ⟨[sL 6 (.vI r_0)],[],[.view .node x.2.1]⟩) (fun (r_1:Unit)=>kx 0 ⟨[],[],[.view .node x.2.1]⟩)) r
def zbu_L:Nat→SubQ:=tblL [(0,zbu_l0)]
theorem zbu_sub0:qBb zbu_L zbu_G 1 9 48 0 zbu_b0:=qAr (show zbu_L 0=zbu_l0 from by kernel_rfl) fun x R kn kx kr=>qAs (step:=fun y=>qD1 x.1.2.1 y x.2.1 x.2.2.1) (enc:=fun (y:Int)=>zbu_d0.e ((x.1.1,x.1.2.1,x.1.2.2.1,y,x.1.2.2.2.2),x.2)) (fun y=>by kernel_rfl) (fun y ki=>by simp only [qD1,-eq_self,qAc,qAf,obA,obS,slL,slR,qAd]; kernel_rfl) x.1.2.2.2.1
theorem zbu_subs:qAq zbu_L zbu_G 1 9 48 zbu_q:=qAk (show qAt zbu_L zbu_G 1 9 48 [(0,zbu_b0)] from ⟨zbu_sub0,tV⟩)
def zbu_da:=(qAa (dVC (dCO (dO 0))) (qAa (dVC (dCO dZ)) (qAa (dVC (dCO dS)) dNil)))
def zbu_db:=(qAa (qAz .node) dNil)
def zbu_c:CS:=mkC zbu_da zbu_db (fun x y=>zbu_s y.1 x.2.1 x.2.2.1) (fun x y r=>.c (.o (.vI r))) fun x y r=>[.view .node y.1]
theorem zbu_val:qAl Tryd.prog 85 zbu_c:=qAn zbu_chk 9 zbu_Gok 1 (fun x=>Nat.le_of_ble_eq_true rfl) (fun y=>rfl) zbu_subs fun x y=>by
 simp only [zbu_s,-eq_self,qAc,qAf,obA,obS,slL,slR,qAd]
 kernel_rfl
def zbu_w:CQ:=qB3 [(0,none,some (.node,46))] (qC3 [false] zbu_c)
theorem zbu_ok:qAg Tryd.prog 85 zbu_w:=qCi zbu_val
def zai_b0:IQ:=(.loop [0,1,5] (.seq (.seq (rg 21 [oM 14 t5,oP 15 (.bi .gtr t14 (vI 0)),oM 16 t15,oF 17 (.mv t1) 16,oF 18 (.mv t0) 16,oF 19 (.len t18) 16,oF 20 (.bi .lss t17 t19) 16,oP 21 (.pick t16 t20 vF)]) (.cond t21 .skip (.cn [1] (.exit 0)))) (.seq (.block 1 (rg 5 [oM 24 t5,oM 25 t0,oM 26 t1,oP 27 (.iaddr 6 t25 t26),oP 28 (.faddr 5 t27),oP 29 (.load none t28),oP 30 (.bin true .sub t29 (vI 1)),oP 31 (.bin true .add t24 t30),oM 5 t31])) (rg 1 [oM 22 t1,oP 23 (.bi .add t22 (vI 1)),oM 1 t23]))))
def zai_q:IQ:=(.seq (rg 4 [oP 4 (.mv (vI 0))]) (.seq (.seq (rg 13 [oM 6 t1,oP 7 (.bi .lss t6 (vI 0)),oM 8 t7,oE 9 (.mv t1) 8,oE 10 (.mv t0) 8,oE 11 (.len t10) 8,oE 12 (.bi .geq t9 t11) 8,oP 13 (.pick t8 vT t12)]) (.cond t13 (.seq (rg 4 [oP 4 (.mv (.v (.int .i64 (-1))))]) (.cn [4] .ret)) .skip)) (.seq (.seq (rg 5 [oP 5 (.mv (vI 1))]) (.block 0 (.cn [0,1,5] (.sub 0 zai_b0)))) (.seq (rg 4 [oM 32 t1,oM 4 t32]) (.cn [4] .ret)))))
theorem zai_chk:chk Tryd.prog 56 [30,31]=some (zai_q.erase,[.tmp 4],33):=by kernel_rfl
def qD5 (at_ left:Int) (v:List Eng.Node):Option ((Int × Int) ⊕ Int) :=
 bif ((decide ((0:Int)<left)) && (decide (at_<(v.length:Int)))) then (
  gd (0≤at_∧at_<v.length) <|
  gd ((Int.toNat at_)<v.length) <|
  gd ((Int.toNat at_)<v.length) <|
  gd (qAe (at_+(1:Int))) <|
  some (.inl ((at_+(1:Int)),w64 (left+(w64 (((v.getD (Int.toNat at_) (ET.dft .node)).kids) - (1:Int)))))))
 else (
  some (.inr at_))
def zai_p0 (at_ left:Int) (v:List Eng.Node):Option Int :=
 qA6 (fun x:(Int × Int)=>qD5 x.1 x.2 v) (at_,left)
def zai_s (v:(List Eng.Node)) (at_:Int):Option Int :=
 bif ((decide (at_<(0:Int))) || (decide ((v.length:Int)≤at_))) then (
  some (-1:Int))
 else (
  (zai_p0 at_ (1:Int) v).bind fun o1 =>
  some o1)
def zai_G:Nat→Option CQ:=tblQ []
theorem zai_Gok:∀f C,zai_G f=some C→qAg Tryd.prog f C:=fun f C h=>by cases h
def zai_d0:=(dQS (qAa (dSO 0 (dO 0)) (qAa (dSO 1 dZ) (qAa (dSO 5 dZ) dNil))) (qAa (qAz .node) dNil))
def zai_l0:SubQ:=mkL zai_d0 (fun x=>zai_p0 x.1.2.1 x.1.2.2.1 x.2.1) fun x r R kn kx kr=>kx 0 ⟨[sL 1 (.vI r)],[],[.view .node x.2.1]⟩
def zai_L:Nat→SubQ:=tblL [(0,zai_l0)]
theorem zai_sub0:qBb zai_L zai_G 1 6 33 0 zai_b0:=qAr (show zai_L 0=zai_l0 from by kernel_rfl) fun x R kn kx kr=>qAs (step:=fun y=>qD5 y.1 y.2 x.2.1) (enc:=fun (y:Int × Int)=>zai_d0.e ((x.1.1,y.1,y.2,x.1.2.2.2),x.2)) (fun y=>by kernel_rfl) (fun y ki=>by simp only [qD5,-eq_self,qAc,qAf,obA,obS,slL,slR,qAd]; kernel_rfl) (x.1.2.1,x.1.2.2.1)
theorem zai_subs:qAq zai_L zai_G 1 6 33 zai_q:=qAk (show qAt zai_L zai_G 1 6 33 [(0,zai_b0)] from ⟨zai_sub0,tV⟩)
def zai_da:=(qAa (dVC (dCO (dO 0))) (qAa (dVC (dCO dZ)) dNil))
def zai_db:=(qAa (qAz .node) dNil)
def zai_c:CS:=mkC zai_da zai_db (fun x y=>zai_s y.1 x.2.1) (fun x y r=>.c (.o (.vI r))) fun x y r=>[.view .node y.1]
theorem zai_val:qAl Tryd.prog 56 zai_c:=qAn zai_chk 6 zai_Gok 1 (fun x=>Nat.le_of_ble_eq_true rfl) (fun y=>rfl) zai_subs fun x y=>by
 simp only [zai_s,-eq_self,qAc,qAf,obA,obS,slL,slR,qAd]
 kernel_rfl
def zai_w:CQ:=qB3 [(0,none,some (.node,46))] (qC3 [false] zai_c)
theorem zai_ok:qAg Tryd.prog 56 zai_w:=qCi zai_val
def zaj_b0:IQ:=(.loop [0,1,5,6,7] (.seq (.seq (rg 34 [oM 18 t7,oM 19 t0,oM 20 t1,oP 21 (.iaddr 6 t19 t20),oP 22 (.faddr 5 t21),oP 23 (.load none t22),oP 24 (.bi .lss t18 t23),oM 25 t24,oF 26 (.mv t6) 25,oF 27 (.bi .geq t26 (vI 0)) 25,oP 28 (.pick t25 t27 vF),oM 29 t28,oF 30 (.mv t6) 29,oF 31 (.mv t0) 29,oF 32 (.len t31) 29,oF 33 (.bi .lss t30 t32) 29,oP 34 (.pick t29 t33 vF)]) (.cond t34 .skip (.cn [5] (.exit 0)))) (.seq (.block 1 (.seq (rg 5 [oM 37 t5,oM 38 t6,oP 39 (.bslice 3 1 1 [.int .i64 0] [(0,t38)]),oP 40 (.append 3 1 8 [.int .i64 0] t37 t39),oM 5 t40]) (rg 6 [oM 41 t0,oM 42 t6,oP 43 (.call 56 [t41,t42]),oM 6 t43]))) (rg 7 [oM 35 t7,oP 36 (.bi .add t35 (vI 1)),oM 7 t36]))))
def zaj_q:IQ:=(.seq (rg 4 [oP 4 (.mv (.v (.slice none 0 0)))]) (.seq (.seq (rg 15 [oM 8 t1,oP 9 (.bi .lss t8 (vI 0)),oM 10 t9,oE 11 (.mv t1) 10,oE 12 (.mv t0) 10,oE 13 (.len t12) 10,oE 14 (.bi .geq t11 t13) 10,oP 15 (.pick t10 vT t14)]) (.cond t15 (.seq (rg 4 [oP 4 (.mv (.v (.slice none 0 0)))]) (.canon [(4,none,.i64,3)] [4] .ret)) .skip)) (.seq (rg 5 [oP 5 (.mv (.v (.slice none 0 0)))]) (.seq (rg 6 [oM 16 t1,oP 17 (.bi .add t16 (vI 1)),oM 6 t17]) (.seq (.seq (rg 7 [oP 7 (.mv (vI 0))]) (.block 0 (.canon [(5,none,.i64,3)] [0,1,5,6,7] (.sub 0 zaj_b0)))) (.seq (rg 4 [oM 44 t5,oM 4 t44]) (.canon [(4,none,.i64,3)] [4] .ret)))))))
theorem zaj_chk:chk Tryd.prog 29 []=some (zaj_q.erase,[.tmp 4],45):=by kernel_rfl
def qFm (at_ next i:Int) (v:List Eng.Node) (out:List Int):Option ((Int × Int × (List Int)) ⊕ ((List Int))) :=
 gd (0≤at_∧at_<v.length) <|
 gd ((Int.toNat at_)<v.length) <|
 gd ((Int.toNat at_)<v.length) <|
 bif (((decide (i<((v.getD (Int.toNat at_) (ET.dft .node)).kids))) && (decide ((0:Int)≤next))) && (decide (next<(v.length:Int)))) then (
  gd (out.length+([next]:List Int).length≤9223372036854775807∧(out.length+([next]:List Int).length)*8≤140737488355328) <|
  (zai_s v next).bind fun r5 =>
  gd (qAe (i+(1:Int))) <|
  some (.inl (r5,(i+(1:Int)),(out++[next]))))
 else (
  some (.inr out))
def zaj_p0 (at_ next i:Int) (v:List Eng.Node) (out:List Int):Option ((List Int)) :=
 qA6 (fun x:(Int × Int × (List Int))=>qFm at_ x.1 x.2.1 v x.2.2) (next,i,out)
def zaj_s (v:(List Eng.Node)) (at_:Int):Option ((List Int)) :=
 bif ((decide (at_<(0:Int))) || (decide ((v.length:Int)≤at_))) then (
  some [])
 else (
  gd (qAe (at_+(1:Int))) <|
  (zaj_p0 at_ (at_+(1:Int)) (0:Int) v []).bind fun o6 =>
  some o6)
def zaj_G:Nat→Option CQ:=tblQ [(56,zai_w)]
theorem zaj_Gok:∀f C,zaj_G f=some C→qAg Tryd.prog f C:=qAi ⟨zai_ok,tV⟩
def zaj_d0:=(dQS (qAa (dSO 0 (dO 0)) (qAa (dSO 1 dZ) (qAa (dSO 5 (dO 1)) (qAa (dSO 6 dZ) (qAa (dSO 7 dZ) dNil))))) (qAa (qAz .node) (qAa (dRow .i64 3) dNil)))
def zaj_l0:SubQ:=mkL zaj_d0 (fun x=>zaj_p0 x.1.2.1 x.1.2.2.2.1 x.1.2.2.2.2.1 x.2.1 x.2.2.1) fun x r R kn kx kr=>kx 0 ⟨[sL 5 (.own 1)],[],[.view .node x.2.1,.row .i64 3 r]⟩
def zaj_L:Nat→SubQ:=tblL [(0,zaj_l0)]
theorem zaj_sub0:qBb zaj_L zaj_G 1 8 45 0 zaj_b0:=qAr (show zaj_L 0=zaj_l0 from by kernel_rfl) fun x R kn kx kr=>qAs (step:=fun y=>qFm x.1.2.1 y.1 y.2.1 x.2.1 y.2.2) (enc:=fun (y:Int × Int × (List Int))=>zaj_d0.e ((x.1.1,x.1.2.1,x.1.2.2.1,y.1,y.2.1,x.1.2.2.2.2.2),(x.2.1,y.2.2,x.2.2.2))) (fun y=>by kernel_rfl) (fun y ki=>by simp only [qFm,-eq_self,qAc,qAf,obA,obS,slL,slR,qAd]; kernel_rfl) (x.1.2.2.2.1,x.1.2.2.2.2.1,x.2.2.1)
theorem zaj_subs:qAq zaj_L zaj_G 1 8 45 zaj_q:=qAk (show qAt zaj_L zaj_G 1 8 45 [(0,zaj_b0)] from ⟨zaj_sub0,tV⟩)
def zaj_da:=(qAa (dVC (dCO (dO 0))) (qAa (dVC (dCO dZ)) dNil))
def zaj_db:=(qAa (qAz .node) dNil)
def zaj_c:CS:=mkC zaj_da zaj_db (fun x y=>zaj_s y.1 x.2.1) (fun x y r=>.c (.o (.own 1))) fun x y r=>[.view .node y.1,.row .i64 3 r]
theorem zaj_val:qAl Tryd.prog 29 zaj_c:=qAn zaj_chk 8 zaj_Gok 1 (fun x=>Nat.le_of_ble_eq_true rfl) (fun y=>rfl) zaj_subs fun x y=>by
 simp only [zaj_s,-eq_self,qAc,qAf,obA,obS,slL,slR,qAd]
 kernel_rfl
def zaj_w:CQ:=qB3 [(0,none,some (.node,46))] (qB1 [false] zaj_c)
theorem zaj_ok:qAg Tryd.prog 29 zaj_w:=qAy zaj_val
def qCc (at_:Int) (key:BA) (next i:Int) (v:List Eng.Node):Option ((Int × Int) ⊕ (Int ⊕ Unit)) :=
 gd (0≤at_∧at_<v.length) <|
 gd ((Int.toNat at_)<v.length) <|
 gd ((Int.toNat at_)<v.length) <|
 bif (((decide (i<((v.getD (Int.toNat at_) (ET.dft .node)).kids))) && (decide ((0:Int)≤next))) && (decide (next<(v.length:Int)))) then (
  gd (0≤next∧next<v.length) <|
  gd ((Int.toNat next)<v.length) <|
  gd ((Int.toNat next)<v.length) <|
  bif decide (((v.getD (Int.toNat next) (ET.dft .node)).key)=key) then (
   some (.inr (.inl next)))
  else (
   (zai_s v next).bind fun r3 =>
   gd (qAe (i+(1:Int))) <|
   some (.inl (r3,(i+(1:Int))))))
 else (
  some (.inr (.inr ())))
def qC9 (at_:Int) (key:BA) (next i:Int) (v:List Eng.Node):Option (Int ⊕ Unit) :=
 qA6 (fun x:(Int × Int)=>qCc at_ key x.1 x.2 v) (next,i)
def json_Member_s (v:(List Eng.Node)) (at_:Int) (key:BA):Option Int :=
 gd (((decide (at_<(0:Int))) || (decide ((v.length:Int)≤at_)))=false→0≤at_∧at_<v.length) <|
 gd (((decide (at_<(0:Int))) || (decide ((v.length:Int)≤at_)))=false→(Int.toNat at_)<v.length) <|
 gd (((decide (at_<(0:Int))) || (decide ((v.length:Int)≤at_)))=false→(Int.toNat at_)<v.length) <|
 bif (((decide (at_<(0:Int))) || (decide ((v.length:Int)≤at_))) || (!decide (((v.getD (Int.toNat at_) (ET.dft .node)).kind)=(7:Int)))) then (
  some (-1:Int))
 else (
  gd (qAe (at_+(1:Int))) <|
  (qC9 at_ key (at_+(1:Int)) (0:Int) v).bind fun o4=>(Sum.elim (fun (o4_0:Int) =>
   some o4_0) (fun (o4_1:Unit) =>
   some (-1:Int))) o4)
end
theorem nd_get {v:List Eng.Node} {a:Nat} {n:Eng.Node} (h:v[a]?=some n):v.getD a (ET.dft .node)=n:=by
 rw [List.getD_eq_getElem?_getD,h]; rfl
theorem nd_some {v:List Eng.Node} {a:Nat} (h:a<v.length):∃n,v[a]?=some n∧n∈v∧v.getD a (ET.dft .node)=n :=
 ⟨v[a],List.getElem?_eq_getElem h,List.getElem_mem h,nd_get (List.getElem?_eq_getElem h)⟩
structure OkN (n:Eng.Node):Prop where
 key:n.key.size≤3000000
 text:n.text.size≤3000000
 kids:qAe n.kids
def OkL (v:List Eng.Node):Prop:=v.length≤2000000∧∀n∈v,OkN n
theorem bAt_byte (t:ByteArray) (i:Int) : -1≤bAt t i∧bAt t i≤255:=by
 unfold bAt
 split
 ·split
  ·rename_i b _
   have:=b.toNat_lt
   omega
  ·omega
 ·omega
theorem byteAt_some (t:ByteArray) (at_:Int) (h0:0≤at_):qDg t at_=some (if (t.size:Int)≤at_ then -1 else bAt t at_)∧(0≤(if (t.size:Int)≤at_ then -1 else bAt t at_)→at_<t.size):=by
 have:=bAt_byte t at_
 unfold qDg
 by_cases h:(t.size:Int)≤at_
 ·rw [deT h,cnT,if_pos h]
  exact ⟨rfl,fun h=>by omega⟩
 ·rw [deF h,cnF,if_neg h]
  refine ⟨(qAb (by omega) _).trans (qAb (by unfold qAe; omega) _),fun _=>by omega⟩
end Go.Proofs.YticplgndjpljiaaDoor
