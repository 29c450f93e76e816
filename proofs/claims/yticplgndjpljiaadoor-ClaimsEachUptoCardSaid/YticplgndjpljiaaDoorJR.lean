/-
  Functions as the engine reads them (printed by gen.py).
-/
import Derived.Test.YticplgndjpljiaaDoorEngO
import Derived.Test.YticplgndjpljiaaDoorProg
import Derived.Test.YticplgndjpljiaaDoorGC
namespace Go.Proofs.YticplgndjpljiaaDoor
open Go.Eng
set_option linter.unusedVariables false
set_option linter.unusedSimpArgs false
set_option maxRecDepth 100000
noncomputable section
structure qGx where
 at_:Int
 l:(List Eng.Node)
 s:BA
 code:Int
 bad:Int
def zbs_b1:IQ:=(.loop [0,3,4] (.seq (.seq (rg 22 [oM 11 t3,oP 12 (.len t11),oP 13 (.bi .gtr t12 (vI 0)),oM 14 t13,oF 15 (.mv t3) 14,oF 16 (.mv t3) 14,oF 17 (.len t16) 14,oF 18 (.bi .sub t17 (vI 1)) 14,oF 19 (.iaddr 1 t15 t18) 14,oF 20 (.load none t19) 14,oF 21 (.bi .leq t20 (vI 0)) 14,oP 22 (.pick t14 t21 vF)]) (.cond t22 .skip (.cn [0,3,4] (.exit 2)))) (.block 3 (rg 3 [oM 23 t3,oM 24 t3,oP 25 (.len t24),oP 26 (.bi .sub t25 (vI 1)),oP 27 (.sub (some 1) t23 none (some t26)),oM 3 t27]))))
def zbs_b2:IQ:=(.join [] [0,3,4] (.seq (rg 3 [oM 43 t3,oM 44 t0,oM 45 t4,oP 46 (.iaddr 6 t44 t45),oP 47 (.faddr 5 t46),oP 48 (.load none t47),oP 49 (.bslice 3 1 1 [.int .i64 0] [(0,t48)]),oP 50 (.append 3 1 8 [.int .i64 0] t43 t49),oM 3 t50]) (.seq (rg 53 [oM 51 t3,oP 52 (.len t51),oP 53 (.bi .gtr t52 (vI 65536))]) (.cond t53 (.seq (rg 2 [oP 2 (.mv vT)]) (.cn [2] .ret)) .skip))))
def zbs_b0:IQ:=(.loop [0,3,4] (.seq (.seq (rg 8 [oM 5 t4,oM 6 t0,oP 7 (.len t6),oP 8 (.bi .lss t5 t7)]) (.cond t8 .skip (.cn [] (.exit 0)))) (.seq (.block 1 (.seq (.block 2 (.canon [(3,none,.i64,3)] [0,3,4] (.sub 1 zbs_b1))) (.seq (.seq (rg 30 [oM 28 t3,oP 29 (.len t28),oP 30 (.bi .gtr t29 (vI 0))]) (.cond t30 (rg 0 [oM 31 t3,oM 32 t3,oP 33 (.len t32),oP 34 (.bi .sub t33 (vI 1)),oM 35 t3,oM 36 t3,oP 37 (.len t36),oP 38 (.bi .sub t37 (vI 1)),oP 39 (.iaddr 1 t35 t38),oP 40 (.load none t39),oP 41 (.bi .sub t40 (vI 1)),oP 42 (.iaddr 1 t31 t34),oN (.store 1 t42 t41)]) .skip)) (.canon [(3,none,.i64,3)] [0,3,4] (.sub 2 zbs_b2))))) (rg 4 [oM 9 t4,oP 10 (.bi .add t9 (vI 1)),oM 4 t10]))))
def zbs_q:IQ:=(.seq (rg 2 [oP 2 (.mv vF)]) (.seq (rg 3 [oP 3 (.mv (.v (.slice none 0 0)))]) (.seq (.seq (rg 4 [oP 4 (.mv (vI 0))]) (.block 0 (.canon [(3,none,.i64,3)] [0,3,4] (.sub 0 zbs_b0)))) (.seq (rg 2 [oP 2 (.mv vF)]) (.cn [2] .ret)))))
theorem zbs_chk:chk Tryd.prog 32 []=some (zbs_q.erase,[.tmp 2],54):=by kernel_rfl
def qD4 (open_:List Int):Option (((List Int)) ⊕ ((List Int))) :=
 gd ((decide ((0:Int)<(open_.length:Int)))=true→qAe ((open_.length:Int) - (1:Int))) <|
 gd ((decide ((0:Int)<(open_.length:Int)))=true→0≤((open_.length:Int) - (1:Int))∧((open_.length:Int) - (1:Int))<open_.length) <|
 gd ((decide ((0:Int)<(open_.length:Int)))=true→(Int.toNat ((open_.length:Int) - (1:Int)))<open_.length) <|
 bif ((decide ((0:Int)<(open_.length:Int))) && (decide ((open_.getD (Int.toNat ((open_.length:Int) - (1:Int))) (ET.dft .i64))≤(0:Int)))) then (
  gd (qAe ((open_.length:Int) - (1:Int))) <|
  gd (0≤((open_.length:Int) - (1:Int))∧((open_.length:Int) - (1:Int))≤open_.length) <|
  some (.inl (open_.take (Int.toNat ((open_.length:Int) - (1:Int))))))
 else (
  some (.inr open_))
def zbs_p1 (open_:List Int):Option ((List Int)) :=
 qA3 (fun x:((List Int))=>qD4 x) open_
def zbs_p2 (i:Int) (v:List Eng.Node) (open_:List Int):Option (Bool ⊕ ((List Int))) :=
 gd (0≤i∧i<v.length) <|
 gd ((Int.toNat i)<v.length) <|
 gd ((Int.toNat i)<v.length) <|
 gd (open_.length+([(v.getD (Int.toNat i) (ET.dft .node)).kids]:List Int).length≤9223372036854775807∧(open_.length+([(v.getD (Int.toNat i) (ET.dft .node)).kids]:List Int).length)*8≤140737488355328) <|
 bif decide ((65536:Int)<((open_++[(v.getD (Int.toNat i) (ET.dft .node)).kids]).length:Int)) then (
  some (.inl true))
 else (
  some (.inr (open_++[(v.getD (Int.toNat i) (ET.dft .node)).kids])))
def qD0 (i:Int) (v:List Eng.Node) (open_:List Int):Option ((Int × (List Int)) ⊕ (Bool ⊕ Unit)) :=
 bif decide (i<(v.length:Int)) then (
  (zbs_p1 open_).bind fun o8 =>
  bif decide ((0:Int)<(o8.length:Int)) then (
   gd (qAe ((o8.length:Int) - (1:Int))) <|
   gd (qAe ((o8.length:Int) - (1:Int))) <|
   gd (0≤((o8.length:Int) - (1:Int))∧((o8.length:Int) - (1:Int))<o8.length) <|
   gd ((Int.toNat ((o8.length:Int) - (1:Int)))<o8.length) <|
   gd (qAe ((o8.getD (Int.toNat ((o8.length:Int) - (1:Int))) (ET.dft .i64)) - (1:Int))) <|
   gd (0≤((o8.length:Int) - (1:Int))∧((o8.length:Int) - (1:Int))<o8.length) <|
   gd ((Int.toNat ((o8.length:Int) - (1:Int)))<o8.length) <|
   (zbs_p2 i v (o8.set (Int.toNat ((o8.length:Int) - (1:Int))) ((o8.getD (Int.toNat ((o8.length:Int) - (1:Int))) (ET.dft .i64)) - (1:Int)))).bind fun o9=>(Sum.elim (fun (o9_0:Bool) =>
    some (.inr (.inl o9_0))) (fun (o9_1:(List Int)) =>
    gd (qAe (i+(1:Int))) <|
    some (.inl ((i+(1:Int)),o9_1)))) o9)
  else (
   (zbs_p2 i v o8).bind fun o10=>(Sum.elim (fun (o10_0:Bool) =>
    some (.inr (.inl o10_0))) (fun (o10_1:(List Int)) =>
    gd (qAe (i+(1:Int))) <|
    some (.inl ((i+(1:Int)),o10_1)))) o10))
 else (
  some (.inr (.inr ())))
def zbs_p0 (i:Int) (v:List Eng.Node) (open_:List Int):Option (Bool ⊕ Unit) :=
 qA3 (fun x:(Int × (List Int))=>qD0 x.1 v x.2) (i,open_)
def zbs_s (v:(List Eng.Node)):Option Bool :=
 (zbs_p0 (0:Int) v []).bind fun o11=>(Sum.elim (fun (o11_0:Bool) =>
  some o11_0) (fun (o11_1:Unit) =>
  some false)) o11
def zbs_G:Nat→Option CQ:=tblQ []
theorem zbs_Gok:∀f C,zbs_G f=some C→qAg Tryd.prog f C:=fun f C h=>by cases h
def zbs_d1:=(dQS (qAa (dSO 0 (dO 0)) (qAa (dSO 3 (dO 1)) (qAa (dSO 4 dZ) dNil))) (qAa (qAv .node) (qAa (dRow .i64 3) dNil)))
def zbs_l1:SubQ:=mkL zbs_d1 (fun x=>zbs_p1 x.2.2.1) fun x r R kn kx kr=>kx 2 ⟨[sL 0 (.own 0),sL 3 (.own 1),sL 4 (.vI x.1.2.2.1)],[],[.view .node x.2.1,.row .i64 3 r]⟩
def zbs_d2:=(dQS (qAa (dSO 0 (dO 0)) (qAa (dSO 3 (dO 1)) (qAa (dSO 4 dZ) dNil))) (qAa (qAv .node) (qAa (dRow .i64 3) dNil)))
def zbs_l2:SubQ:=mkL zbs_d2 (fun x=>zbs_p2 x.1.2.2.1 x.2.1 x.2.2.1) fun x r R kn kx kr=>(Sum.elim (fun (r_0:Bool)=>kr ⟨[sL 2 (.vB r_0)],[],[.view .node x.2.1]⟩) (fun (r_1:(List Int))=>kn ⟨[sL 0 (.own 0),sL 3 (.own 1),sL 4 (.vI x.1.2.2.1)],[],[.view .node x.2.1,.row .i64 3 r_1]⟩)) r
def zbs_d0:=(dQS (qAa (dSO 0 (dO 0)) (qAa (dSO 3 (dO 1)) (qAa (dSO 4 dZ) dNil))) (qAa (qAv .node) (qAa (dRow .i64 3) dNil)))
def zbs_l0:SubQ:=mkL zbs_d0 (fun x=>zbs_p0 x.1.2.2.1 x.2.1 x.2.2.1) fun x r R kn kx kr=>(Sum.elim (fun (r_0:Bool)=>kr ⟨[sL 2 (.vB r_0)],[],[.view .node x.2.1]⟩) (fun (r_1:Unit)=>kx 0 ⟨[],[],[.view .node x.2.1]⟩)) r
def zbs_L:Nat→SubQ:=tblL [(1,zbs_l1),(2,zbs_l2),(0,zbs_l0)]
theorem zbs_sub1:qBf zbs_L zbs_G 1 5 54 1 zbs_b1:=qAu (show zbs_L 1=zbs_l1 from by kernel_rfl) fun x R kn kx kr=>qAq (step:=fun y=>qD4 y) (enc:=fun (y:(List Int))=>zbs_d1.e (x.1,(x.2.1,y,x.2.2.2))) (fun y=>by kernel_rfl) (fun y ki=>by simp only [qD4,-eq_self,qAc,qAf,obA,obS,slL,slR,qAd]; kernel_rfl) x.2.2.1
theorem zbs_sub2:qBf zbs_L zbs_G 1 5 54 2 zbs_b2:=qAu (show zbs_L 2=zbs_l2 from by kernel_rfl) fun x R kn kx kr=>by
 simp only [zbs_p2,-eq_self,qAc,qAf,obA,obS,slL,slR,qAd]
 kernel_rfl
theorem zbs_sub0:qBf zbs_L zbs_G 1 5 54 0 zbs_b0:=qAu (show zbs_L 0=zbs_l0 from by kernel_rfl) fun x R kn kx kr=>qAq (step:=fun y=>qD0 y.1 x.2.1 y.2) (enc:=fun (y:Int × (List Int))=>zbs_d0.e ((x.1.1,x.1.2.1,y.1,x.1.2.2.2),(x.2.1,y.2,x.2.2.2))) (fun y=>by kernel_rfl) (fun y ki=>by simp only [qD0,-eq_self,qAc,qAf,obA,obS,slL,slR,qAd]; kernel_rfl) (x.1.2.2.1,x.2.2.1)
theorem zbs_subs:qAr zbs_L zbs_G 1 5 54 zbs_q:=qAl (show qAt zbs_L zbs_G 1 5 54 [(0,zbs_b0),(1,zbs_b1),(2,zbs_b2)] from ⟨zbs_sub0,zbs_sub1,zbs_sub2,tV⟩)
def zbs_da:=(qAa (dVC (dCO (dO 0))) dNil)
def zbs_db:=(qAa (qAv .node) dNil)
def zbs_c:CS:=mkC zbs_da zbs_db (fun x y=>zbs_s y.1) (fun x y r=>.c (.o (.vB r))) fun x y r=>[.view .node y.1]
theorem zbs_val:qAn Tryd.prog 32 zbs_c:=qAo zbs_chk 5 zbs_Gok 1 (fun x=>Nat.le_of_ble_eq_true rfl) (fun y=>rfl) zbs_subs fun x y=>by
 simp only [zbs_s,-eq_self,qAc,qAf,obA,obS,slL,slR,qAd]
 kernel_rfl
def zbs_w:CQ:=qB4 [(0,none,some (.node,46))] (qCn [false] zbs_c)
theorem zbs_ok:qAg Tryd.prog 32 zbs_w:=qBx zbs_val
def zbv_q:IQ:=(.seq (rg 4 [oP 2 (.mv (vI 0)),oP 3 (.mv (vI 0)),oP 4 (.mv (vI 0))]) (.seq (.block 0 (.seq (rg 5 [oM 6 t0,oP 7 (.bi .lss t6 (vI 194)),oM 8 t7,oE 9 (.mv t0) 8,oE 10 (.bi .gtr t9 (vI 244)) 8,oP 11 (.pick t8 vT t10),oM 5 t11]) (.cond t5 (.seq (rg 4 [oP 2 (.mv (.v (.int .i64 (-1)))),oP 3 (.mv (vI 0)),oP 4 (.mv (vI 0))]) (.cn [2,3,4] .ret)) (.seq (rg 12 [oM 13 t0,oP 14 (.bi .lss t13 (vI 224)),oM 12 t14]) (.cond t12 (.seq (rg 4 [oP 2 (.mv (vI 1)),oP 3 (.mv (vI 128)),oP 4 (.mv (vI 191))]) (.cn [2,3,4] .ret)) (.seq (rg 15 [oM 16 t0,oP 17 (.bi .eql t16 (vI 224)),oM 15 t17]) (.cond t15 (.seq (rg 4 [oP 2 (.mv (vI 2)),oP 3 (.mv (vI 160)),oP 4 (.mv (vI 191))]) (.cn [2,3,4] .ret)) (.seq (rg 18 [oM 19 t0,oP 20 (.bi .eql t19 (vI 237)),oM 18 t20]) (.cond t18 (.seq (rg 4 [oP 2 (.mv (vI 2)),oP 3 (.mv (vI 128)),oP 4 (.mv (vI 159))]) (.cn [2,3,4] .ret)) (.seq (rg 21 [oM 22 t0,oP 23 (.bi .lss t22 (vI 240)),oM 21 t23]) (.cond t21 (.seq (rg 4 [oP 2 (.mv (vI 2)),oP 3 (.mv (vI 128)),oP 4 (.mv (vI 191))]) (.cn [2,3,4] .ret)) (.seq (rg 24 [oM 25 t0,oP 26 (.bi .eql t25 (vI 240)),oM 24 t26]) (.cond t24 (.seq (rg 4 [oP 2 (.mv (vI 3)),oP 3 (.mv (vI 144)),oP 4 (.mv (vI 191))]) (.cn [2,3,4] .ret)) (.seq (rg 27 [oM 28 t0,oP 29 (.bi .eql t28 (vI 244)),oM 27 t29]) (.cond t27 (.seq (rg 4 [oP 2 (.mv (vI 3)),oP 3 (.mv (vI 128)),oP 4 (.mv (vI 143))]) (.cn [2,3,4] .ret)) .skip))))))))))))))) (.seq (rg 4 [oP 2 (.mv (vI 3)),oP 3 (.mv (vI 128)),oP 4 (.mv (vI 191))]) (.cn [2,3,4] .ret))))
theorem zbv_chk:chk Tryd.prog 122 []=some (zbv_q.erase,[.tmp 2,.tmp 3,.tmp 4],30):=by kernel_rfl
def zbv_s (c:Int):Option (Int × Int × Int) :=
 bif ((decide (c<(194:Int))) || (decide ((244:Int)<c))) then (
  some ((-1:Int),(0:Int),(0:Int)))
 else (
  bif decide (c<(224:Int)) then (
   some ((1:Int),(128:Int),(191:Int)))
  else (
   bif decide (c=(224:Int)) then (
    some ((2:Int),(160:Int),(191:Int)))
   else (
    bif decide (c=(237:Int)) then (
     some ((2:Int),(128:Int),(159:Int)))
    else (
     bif decide (c<(240:Int)) then (
      some ((2:Int),(128:Int),(191:Int)))
     else (
      bif decide (c=(240:Int)) then (
       some ((3:Int),(144:Int),(191:Int)))
      else (
       bif decide (c=(244:Int)) then (
        some ((3:Int),(128:Int),(143:Int)))
       else (
        some ((3:Int),(128:Int),(191:Int)))))))))
def zbv_G:Nat→Option CQ:=tblQ []
theorem zbv_Gok:∀f C,zbv_G f=some C→qAg Tryd.prog f C:=fun f C h=>by cases h
def zbv_L:Nat→SubQ:=tblL []
theorem zbv_subs:qAr zbv_L zbv_G 0 5 30 zbv_q:=qAl (show qAt zbv_L zbv_G 0 5 30 [] from tV)
def zbv_da:=(qAa (dVC (dCO dZ)) dNil)
def zbv_db:=(dNil:Dec Unit (List SB))
def zbv_c:CS:=mkC zbv_da zbv_db (fun x y=>zbv_s x.1) (fun x y r=>.tup [.o (.vI r.1),.o (.vI r.2.1),.o (.vI r.2.2)]) fun x y r=>[]
theorem zbv_val:qAn Tryd.prog 122 zbv_c:=qAo zbv_chk 5 zbv_Gok 0 (fun x=>Nat.le_of_ble_eq_true rfl) (fun y=>rfl) zbv_subs fun x y=>by
 simp only [zbv_s,-eq_self,qAc,qAf,obA,obS,slL,slR,qAd]
 kernel_rfl
def zbv_w:CQ:=qCn [] zbv_c
theorem zbv_ok:qAg Tryd.prog 122 zbv_w:=qAw zbv_val
def zbx_q:IQ:=(.seq (rg 4 [oP 4 (.alloc 120 [.int .i64 0,.slice none 0 0,.string ⟨#[]⟩,.int .i64 0,.int .i64 0])]) (.seq (rg 0 [oM 5 t0,oM 6 t1,oP 7 (.build [.int .i64 0,.slice none 0 0,.string ⟨#[]⟩,.int .i64 0,.int .i64 0] [(3,1,t5),(4,1,t6)]),oN (.store 5 t4 t7)]) (.canon [(4,some 1,.node,46)] [4] .ret)))
theorem zbx_chk:chk Tryd.prog 95 []=some (zbx_q.erase,[.cell 4 (some 5)],8):=by kernel_rfl
def zbx_s (e at_:Int):Option qGx :=
 some (⟨(0:Int),[],(⟨#[]⟩:BA),e,at_⟩:qGx)
def zbx_G:Nat→Option CQ:=tblQ []
theorem zbx_Gok:∀f C,zbx_G f=some C→qAg Tryd.prog f C:=fun f C h=>by cases h
def zbx_L:Nat→SubQ:=tblL []
theorem zbx_subs:qAr zbx_L zbx_G 0 5 8 zbx_q:=qAl (show qAt zbx_L zbx_G 0 5 8 [] from tV)
def zbx_da:=(qAa (dVC (dCO dZ)) (qAa (dVC (dCO dZ)) dNil))
def zbx_db:=(dNil:Dec Unit (List SB))
def zbx_c:CS:=mkC zbx_da zbx_db (fun x y=>zbx_s x.1 x.2.1) (fun x y r=>.c (.agg [.vI r.at_,.own 0,.vS r.s,.vI r.code,.vI r.bad])) fun x y r=>[.row .node 46 r.l]
theorem zbx_val:qAn Tryd.prog 95 zbx_c:=qAo zbx_chk 5 zbx_Gok 0 (fun x=>Nat.le_of_ble_eq_true rfl) (fun y=>rfl) zbx_subs fun x y=>by
 simp only [zbx_s,-eq_self,qAc,qAf,obA,obS,slL,slR,qAd]
 kernel_rfl
def zbx_w:CQ:=qC6 [] zbx_c
theorem zbx_ok:qAg Tryd.prog 95 zbx_w:=qEy zbx_val
def zbw_q:IQ:=(.seq (rg 4 [oP 4 (.mv (vI 0))]) (.seq (.seq (rg 8 [oM 5 t1,oM 6 t0,oP 7 (.lenS t6),oP 8 (.bi .geq t5 t7)]) (.cond t8 (.seq (rg 4 [oP 4 (.mv (.v (.int .i64 (-1))))]) (.cn [4] .ret)) .skip)) (.seq (rg 4 [oM 9 t0,oM 10 t1,oP 11 (.index t9 t10),oP 12 (.conv false .i64 t11),oM 4 t12]) (.cn [4] .ret))))
theorem zbw_chk:chk Tryd.prog 94 []=some (zbw_q.erase,[.tmp 4],13):=by kernel_rfl
def zbw_s (t:BA) (at_:Int):Option Int :=
 bif decide ((t.size:Int)≤at_) then (
  some (-1:Int))
 else (
  gd (0≤at_∧at_<t.size) <|
  gd (qAe (bAt t at_)) <|
  some (bAt t at_))
def zbw_G:Nat→Option CQ:=tblQ []
theorem zbw_Gok:∀f C,zbw_G f=some C→qAg Tryd.prog f C:=fun f C h=>by cases h
def zbw_L:Nat→SubQ:=tblL []
theorem zbw_subs:qAr zbw_L zbw_G 0 5 13 zbw_q:=qAl (show qAt zbw_L zbw_G 0 5 13 [] from tV)
def zbw_da:=(qAa (dVC (dCO dS)) (qAa (dVC (dCO dZ)) dNil))
def zbw_db:=(dNil:Dec Unit (List SB))
def zbw_c:CS:=mkC zbw_da zbw_db (fun x y=>zbw_s x.1 x.2.1) (fun x y r=>.c (.o (.vI r))) fun x y r=>[]
theorem zbw_val:qAn Tryd.prog 94 zbw_c:=qAo zbw_chk 5 zbw_Gok 0 (fun x=>Nat.le_of_ble_eq_true rfl) (fun y=>rfl) zbw_subs fun x y=>by
 simp only [zbw_s,-eq_self,qAc,qAf,obA,obS,slL,slR,qAd]
 kernel_rfl
def zbw_w:CQ:=qCn [] zbw_c
theorem zbw_ok:qAg Tryd.prog 94 zbw_w:=qAw zbw_val
def zbz_b0:IQ:=(.loop [0,1,4,5,6,7,8] (.seq (.seq (rg 25 [oM 23 t8,oM 24 t5,oP 25 (.bi .leq t23 t24)]) (.cond t25 .skip (.cn [0,1,4,5] (.exit 0)))) (.seq (.block 1 (.seq (rg 9 [oM 28 t0,oM 29 t1,oM 30 t8,oP 31 (.bi .add t29 t30),oP 32 (.call 94 [t28,t31]),oM 9 t32]) (.seq (.seq (rg 34 [oM 33 t9,oP 34 (.bi .lss t33 (vI 0))]) (.cond t34 (.seq (rg 0 [oM 35 t0,oP 36 (.lenS t35),oP 37 (.call 95 [(vI 31),t36]),oN (.store 5 t4 t37)]) (.canon [(4,some 1,.node,46)] [4] .ret)) .skip)) (.seq (.seq (rg 45 [oM 38 t9,oM 39 t6,oP 40 (.bi .lss t38 t39),oM 41 t40,oE 42 (.mv t9) 41,oE 43 (.mv t7) 41,oE 44 (.bi .gtr t42 t43) 41,oP 45 (.pick t41 vT t44)]) (.cond t45 (.seq (rg 0 [oM 46 t1,oP 47 (.call 95 [(vI 32),t46]),oN (.store 5 t4 t47)]) (.canon [(4,some 1,.node,46)] [4] .ret)) .skip)) (.seq (rg 6 [oP 6 (.mv (vI 128))]) (rg 7 [oP 7 (.mv (vI 191))])))))) (rg 8 [oM 26 t8,oP 27 (.bi .add t26 (vI 1)),oM 8 t27]))))
def zbz_q:IQ:=(.seq (rg 4 [oP 4 (.alloc 120 [.int .i64 0,.slice none 0 0,.string ⟨#[]⟩,.int .i64 0,.int .i64 0])]) (.seq (rg 7 [oM 11 t0,oM 12 t1,oP 13 (.index t11 t12),oP 14 (.conv false .i64 t13),oP 15 (.call 122 [t14]),oM 10 t15,oP 16 (.extract t10 0),oP 17 (.extract t10 1),oP 18 (.extract t10 2),oM 5 t16,oM 6 t17,oM 7 t18]) (.seq (.seq (rg 20 [oM 19 t5,oP 20 (.bi .lss t19 (vI 0))]) (.cond t20 (.seq (rg 0 [oM 21 t1,oP 22 (.call 95 [(vI 32),t21]),oN (.store 5 t4 t22)]) (.canon [(4,some 1,.node,46)] [4] .ret)) .skip)) (.seq (.seq (rg 8 [oP 8 (.mv (vI 1))]) (.block 0 (.cn [0,1,4,5,6,7,8] (.sub 0 zbz_b0)))) (.seq (rg 0 [oM 48 t1,oM 49 t5,oP 50 (.bi .add t48 t49),oP 51 (.bi .add t50 (vI 1)),oM 52 t0,oM 53 t1,oM 54 t1,oM 55 t5,oP 56 (.bi .add t54 t55),oP 57 (.bi .add t56 (vI 1)),oP 58 (.sub none t52 (some t53) (some t57)),oP 59 (.build [.int .i64 0,.slice none 0 0,.string ⟨#[]⟩,.int .i64 0,.int .i64 0] [(0,1,t51),(2,1,t58)]),oN (.store 5 t4 t59)]) (.canon [(4,some 1,.node,46)] [4] .ret))))))
theorem zbz_chk:chk Tryd.prog 109 []=some (zbz_q.erase,[.cell 4 (some 5)],60):=by kernel_rfl
def qDd (t:BA) (at_ n low high i:Int):Option ((Int × Int × Int) ⊕ ((Int × BA × Int × Int × (List Eng.Node)) ⊕ Unit)) :=
 bif decide (i≤n) then (
  gd (qAe (at_+i)) <|
  (zbw_s t (at_+i)).bind fun r18 =>
  bif decide (r18<(0:Int)) then (
   (zbx_s (31:Int) (t.size:Int)).bind fun r19 =>
   some (.inr (.inl (r19.at_,r19.s,r19.code,r19.bad,r19.l))))
  else (
   bif ((decide (r18<low)) || (decide (high<r18))) then (
    (zbx_s (32:Int) at_).bind fun r20 =>
    some (.inr (.inl (r20.at_,r20.s,r20.code,r20.bad,r20.l))))
   else (
    gd (qAe (i+(1:Int))) <|
    some (.inl ((128:Int),(191:Int),(i+(1:Int)))))))
 else (
  some (.inr (.inr ())))
def zbz_p0 (t:BA) (at_ n low high i:Int):Option ((Int × BA × Int × Int × (List Eng.Node)) ⊕ Unit) :=
 qA3 (fun x:(Int × Int × Int)=>qDd t at_ n x.1 x.2.1 x.2.2) (low,high,i)
def zbz_s (t:BA) (at_:Int):Option qGx :=
 gd (0≤at_∧at_<t.size) <|
 gd (qAe (bAt t at_)) <|
 (zbv_s (bAt t at_)).bind fun r16 =>
 bif decide (r16.1<(0:Int)) then (
  (zbx_s (32:Int) at_).bind fun r17 =>
  some r17)
 else (
  (zbz_p0 t at_ r16.1 r16.2.1 r16.2.2 (1:Int)).bind fun o21=>(Sum.elim (fun (o21_0:Int × BA × Int × Int × (List Eng.Node)) =>
   some (⟨o21_0.1,o21_0.2.2.2.2,o21_0.2.1,o21_0.2.2.1,o21_0.2.2.2.1⟩:qGx)) (fun (o21_1:Unit) =>
   gd (qAe (at_+r16.1)) <|
   gd (qAe ((at_+r16.1)+(1:Int))) <|
   gd (qAe (at_+r16.1)) <|
   gd (qAe ((at_+r16.1)+(1:Int))) <|
   gd (0≤at_∧at_≤((at_+r16.1)+(1:Int))∧((at_+r16.1)+(1:Int))≤t.size) <|
   some (⟨((at_+r16.1)+(1:Int)),[],(t.extract (Int.toNat at_) (Int.toNat ((at_+r16.1)+(1:Int)))),(0:Int),(0:Int)⟩:qGx))) o21)
def zbz_G:Nat→Option CQ:=tblQ [(122,zbv_w),(95,zbx_w),(94,zbw_w)]
theorem zbz_Gok:∀f C,zbz_G f=some C→qAg Tryd.prog f C:=qAj ⟨zbv_ok,zbx_ok,zbw_ok,tV⟩
def zbz_d0:=(dQS (qAa (dSO 0 dS) (qAa (dSO 1 dZ) (qAa (dSO 4 (dH 0 0)) (qAa (dSO 5 dZ) (qAa (dSO 6 dZ) (qAa (dSO 7 dZ) (qAa (dSO 8 dZ) dNil))))))) (qAa (qAp 120 (qAa dZ (qAa dNS (qAa dS (qAa dZ (qAa dZ dNil)))))) dNil))
def zbz_l0:SubQ:=mkL zbz_d0 (fun x=>zbz_p0 x.1.1 x.1.2.1 x.1.2.2.2.1 x.1.2.2.2.2.1 x.1.2.2.2.2.2.1 x.1.2.2.2.2.2.2.1) fun x r R kn kx kr=>(Sum.elim (fun (r_0:Int × BA × Int × Int × (List Eng.Node))=>kr ⟨[sL 4 (.hd 0 0)],[],[.cells 120 [.vI r_0.1,.own 1,.vS r_0.2.1,.vI r_0.2.2.1,.vI r_0.2.2.2.1],.row .node 46 r_0.2.2.2.2]⟩) (fun (r_1:Unit)=>kx 0 ⟨[sL 0 (.vS x.1.1),sL 1 (.vI x.1.2.1),sL 4 (.hd 0 0),sL 5 (.vI x.1.2.2.2.1)],[],[.cells 120 [.vI x.2.1.1,.val (.slice none 0 0),.vS x.2.1.2.2.1,.vI x.2.1.2.2.2.1,.vI x.2.1.2.2.2.2.1]]⟩)) r
def zbz_L:Nat→SubQ:=tblL [(0,zbz_l0)]
theorem zbz_sub0:qBf zbz_L zbz_G 0 10 60 0 zbz_b0:=qAu (show zbz_L 0=zbz_l0 from by kernel_rfl) fun x R kn kx kr=>qAq (step:=fun y=>qDd x.1.1 x.1.2.1 x.1.2.2.2.1 y.1 y.2.1 y.2.2) (enc:=fun (y:Int × Int × Int)=>zbz_d0.e ((x.1.1,x.1.2.1,x.1.2.2.1,x.1.2.2.2.1,y.1,y.2.1,y.2.2,x.1.2.2.2.2.2.2.2),x.2)) (fun y=>by kernel_rfl) (fun y ki=>by simp only [qDd,-eq_self,qAc,qAf,obA,obS,slL,slR,qAd]; kernel_rfl) (x.1.2.2.2.2.1,x.1.2.2.2.2.2.1,x.1.2.2.2.2.2.2.1)
theorem zbz_subs:qAr zbz_L zbz_G 0 10 60 zbz_q:=qAl (show qAt zbz_L zbz_G 0 10 60 [(0,zbz_b0)] from ⟨zbz_sub0,tV⟩)
def zbz_da:=(qAa (dVC (dCO dS)) (qAa (dVC (dCO dZ)) dNil))
def zbz_db:=(dNil:Dec Unit (List SB))
def zbz_c:CS:=mkC zbz_da zbz_db (fun x y=>zbz_s x.1 x.2.1) (fun x y r=>.c (.agg [.vI r.at_,.own 0,.vS r.s,.vI r.code,.vI r.bad])) fun x y r=>[.row .node 46 r.l]
theorem zbz_val:qAn Tryd.prog 109 zbz_c:=qAo zbz_chk 10 zbz_Gok 0 (fun x=>Nat.le_of_ble_eq_true rfl) (fun y=>rfl) zbz_subs fun x y=>by
 simp only [zbz_s,-eq_self,qAc,qAf,obA,obS,slL,slR,qAd]
 kernel_rfl
def zbz_w:CQ:=qC6 [] zbz_c
theorem zbz_ok:qAg Tryd.prog 109 zbz_w:=qEy zbz_val
def zcb_b0:IQ:=(.loop [0,3] (.seq (.seq (rg 8 [oM 5 t3,oM 6 t0,oP 7 (.lenS t6),oP 8 (.bi .lss t5 t7)]) (.cond t8 .skip (.cn [] (.exit 0)))) (.block 1 (.seq (.seq (rg 12 [oM 9 t0,oM 10 t3,oP 11 (.index t9 t10),oP 12 (.bi .lss t11 (vC 128))]) (.cond t12 (.seq (rg 3 [oM 13 t3,oP 14 (.bi .add t13 (vI 1)),oM 3 t14]) (.exit 1)) .skip)) (.seq (rg 0 [oM 15 t0,oM 16 t3,oP 17 (.call 109 [t15,t16]),oP 4 (.alloc 120 [.int .i64 0,.slice none 0 0,.string ⟨#[]⟩,.int .i64 0,.int .i64 0]),oN (.store 5 t4 t17)]) (.seq (.seq (rg 20 [oP 18 (.faddr 3 t4),oP 19 (.load none t18),oP 20 (.bi .neq t19 (vI 0))]) (.cond t20 (.seq (rg 2 [oP 2 (.mv vF)]) (.cn [2] .ret)) .skip)) (rg 3 [oP 21 (.faddr 0 t4),oP 22 (.load none t21),oM 3 t22])))))))
def zcb_q:IQ:=(.seq (rg 2 [oP 2 (.mv vF)]) (.seq (rg 3 [oP 3 (.mv (vI 0))]) (.seq (.block 0 (.cn [0,3] (.sub 0 zcb_b0))) (.seq (rg 2 [oP 2 (.mv vT)]) (.cn [2] .ret)))))
theorem zcb_chk:chk Tryd.prog 87 []=some (zcb_q.erase,[.tmp 2],23):=by kernel_rfl
def qCq (s:BA) (at_:Int):Option (Int ⊕ (Bool ⊕ Unit)) :=
 bif decide (at_<(s.size:Int)) then (
  gd (0≤at_∧at_<s.size) <|
  bif decide ((bAt s at_)<(128:Int)) then (
   gd (qAe (at_+(1:Int))) <|
   some (.inl (at_+(1:Int))))
  else (
   (zbz_s s at_).bind fun r1 =>
   bif (!decide (r1.code=(0:Int))) then (
    some (.inr (.inl false)))
   else (
    some (.inl r1.at_))))
 else (
  some (.inr (.inr ())))
def zcb_p0 (s:BA) (at_:Int):Option (Bool ⊕ Unit) :=
 qA3 (fun x:Int=>qCq s x) at_
def zcb_s (s:BA):Option Bool :=
 (zcb_p0 s (0:Int)).bind fun o2=>(Sum.elim (fun (o2_0:Bool) =>
  some o2_0) (fun (o2_1:Unit) =>
  some true)) o2
def zcb_G:Nat→Option CQ:=tblQ [(109,zbz_w)]
theorem zcb_Gok:∀f C,zcb_G f=some C→qAg Tryd.prog f C:=qAj ⟨zbz_ok,tV⟩
def zcb_d0:=(dQS (qAa (dSO 0 dS) (qAa (dSO 3 dZ) dNil)) dNil)
def zcb_l0:SubQ:=mkL zcb_d0 (fun x=>zcb_p0 x.1.1 x.1.2.1) fun x r R kn kx kr=>(Sum.elim (fun (r_0:Bool)=>kr ⟨[sL 2 (.vB r_0)],[],[]⟩) (fun (r_1:Unit)=>kx 0 ⟨[],[],[]⟩)) r
def zcb_L:Nat→SubQ:=tblL [(0,zcb_l0)]
theorem zcb_sub0:qBf zcb_L zcb_G 0 5 23 0 zcb_b0:=qAu (show zcb_L 0=zcb_l0 from by kernel_rfl) fun x R kn kx kr=>qAq (step:=fun y=>qCq x.1.1 y) (enc:=fun (y:Int)=>zcb_d0.e ((x.1.1,y,x.1.2.2),x.2)) (fun y=>by kernel_rfl) (fun y ki=>by simp only [qCq,-eq_self,qAc,qAf,obA,obS,slL,slR,qAd]; kernel_rfl) x.1.2.1
theorem zcb_subs:qAr zcb_L zcb_G 0 5 23 zcb_q:=qAl (show qAt zcb_L zcb_G 0 5 23 [(0,zcb_b0)] from ⟨zcb_sub0,tV⟩)
def zcb_da:=(qAa (dVC (dCO dS)) dNil)
def zcb_db:=(dNil:Dec Unit (List SB))
def zcb_c:CS:=mkC zcb_da zcb_db (fun x y=>zcb_s x.1) (fun x y r=>.c (.o (.vB r))) fun x y r=>[]
theorem zcb_val:qAn Tryd.prog 87 zcb_c:=qAo zcb_chk 5 zcb_Gok 0 (fun x=>Nat.le_of_ble_eq_true rfl) (fun y=>rfl) zcb_subs fun x y=>by
 simp only [zcb_s,-eq_self,qAc,qAf,obA,obS,slL,slR,qAd]
 kernel_rfl
def zcb_w:CQ:=qCn [] zcb_c
theorem zcb_ok:qAg Tryd.prog 87 zcb_w:=qAw zcb_val
def zby_q:IQ:=(.seq (rg 2 [oP 1 (.box 46 6 t0),oP 2 (.mv vF)]) (.seq (rg 3 [oP 8 (.faddr 0 t1),oP 9 (.load none t8),oM 3 t9]) (.seq (.seq (rg 29 [oM 10 t3,oP 11 (.bi .lss t10 (vI 1)),oM 12 t11,oE 13 (.mv t3) 12,oE 14 (.bi .gtr t13 (vI 7)) 12,oP 15 (.pick t12 vT t14),oM 16 t15,oE 17 (.faddr 5 t1) 16,oE 18 (.load none t17) 16,oE 19 (.bi .lss t18 (vI 0)) 16,oP 20 (.pick t16 vT t19),oM 21 t20,oE 22 (.faddr 5 t1) 21,oE 23 (.load none t22) 21,oE 24 (.bi .gtr t23 (vI 0)) 21,oE 25 (.mv t24) 21,oF 26 (.mv t3) 25,oF 27 (.bi .lss t26 (vI 6)) 25,oE 28 (.pick t25 t27 vF) 21,oP 29 (.pick t21 vT t28)]) (.cond t29 (.seq (rg 2 [oP 2 (.mv vF)]) (.cn [2] .ret)) .skip)) (.seq (rg 5 [oP 31 (.faddr 2 t1),oP 32 (.load none t31),oP 33 (.call 107 [t32]),oM 30 t33,oP 34 (.extract t30 0),oP 35 (.extract t30 1),oM 4 t34,oM 5 t35]) (.seq (rg 6 [oP 36 (.faddr 2 t1),oP 37 (.load none t36),oP 38 (.call 108 [t37]),oM 6 t38]) (.seq (rg 7 [oP 39 (.faddr 2 t1),oP 40 (.load none t39),oP 41 (.call 87 [t40]),oM 7 t41]) (.seq (.block 0 (.seq (rg 42 [oM 43 t3,oP 44 (.bi .eql t43 (vI 4)),oM 42 t44]) (.cond t42 (.seq (rg 2 [oM 45 t6,oM 46 t45,oF 47 (.mv t5) 46,oF 48 (.faddr 3 t1) 46,oF 49 (.load none t48) 46,oF 50 (.beq false t47 t49) 46,oP 51 (.pick t46 t50 vF),oM 52 t51,oF 53 (.mv t4) 52,oF 54 (.faddr 4 t1) 52,oF 55 (.load none t54) 52,oF 56 (.bi .eql t53 t55) 52,oP 57 (.pick t52 t56 vF),oM 2 t57]) (.cn [2] .ret)) (.seq (rg 58 [oP 59 (.faddr 3 t1),oP 60 (.load none t59),oM 61 t60,oE 62 (.faddr 4 t1) 61,oE 63 (.load none t62) 61,oE 64 (.bi .neq t63 (vI 0)) 61,oP 65 (.pick t61 vT t64),oM 58 t65]) (.cond t58 (.seq (rg 2 [oP 2 (.mv vF)]) (.cn [2] .ret)) (.seq (rg 66 [oM 67 t3,oP 68 (.bi .eql t67 (vI 5)),oM 66 t68]) (.cond t66 (.seq (rg 2 [oM 69 t7,oM 2 t69]) (.cn [2] .ret)) .skip))))))) (.seq (rg 2 [oP 70 (.faddr 2 t1),oP 71 (.load none t70),oP 72 (.bi .eql t71 (.v (.string ⟨#[]⟩))),oM 2 t72]) (.cn [2] .ret)))))))))
theorem zby_chk:chk Tryd.prog 86 []=some (zby_q.erase,[.tmp 2],73):=by kernel_rfl
def zby_s (n:Eng.Node):Option Bool :=
 bif ((((decide (n.kind<(1:Int))) || (decide ((7:Int)<n.kind))) || (decide (n.kids<(0:Int)))) || ((decide ((0:Int)<n.kids)) && (decide (n.kind<(6:Int))))) then (
  some false)
 else (
  (zbp_s n.text).bind fun r1 =>
  (zbo_s n.text).bind fun r2 =>
  (zcb_s n.text).bind fun r3 =>
  bif decide (n.kind=(4:Int)) then (
   some ((r2 && (r1.2 == n.whole)) && (decide (r1.1=n.int))))
  else (
   bif (n.whole || (!decide (n.int=(0:Int)))) then (
    some false)
   else (
    bif decide (n.kind=(5:Int)) then (
     some r3)
    else (
     some (decide (n.text=(⟨#[]⟩:BA)))))))
def zby_G:Nat→Option CQ:=tblQ [(107,zbp_w),(108,zbo_w),(87,zcb_w)]
theorem zby_Gok:∀f C,zby_G f=some C→qAg Tryd.prog f C:=qAj ⟨zbp_ok,zbo_ok,zcb_ok,tV⟩
def zby_L:Nat→SubQ:=tblL []
theorem zby_subs:qAr zby_L zby_G 0 8 73 zby_q:=qAl (show qAt zby_L zby_G 0 8 73 [] from tV)
def zby_da:=(qAa (dVC (dCA (qAa dZ (qAa dS (qAa dS (qAa dB (qAa dZ (qAa dZ dNil)))))))) dNil)
def zby_db:=(dNil:Dec Unit (List SB))
def zby_c:CS:=mkC zby_da zby_db (fun x y=>zby_s (⟨x.1.1,x.1.2.1,x.1.2.2.1,x.1.2.2.2.1,x.1.2.2.2.2.1,x.1.2.2.2.2.2.1⟩:Eng.Node)) (fun x y r=>.c (.o (.vB r))) fun x y r=>[]
theorem zby_val:qAn Tryd.prog 86 zby_c:=qAo zby_chk 8 zby_Gok 0 (fun x=>Nat.le_of_ble_eq_true rfl) (fun y=>rfl) zby_subs fun x y=>by
 simp only [zby_s,-eq_self,qAc,qAf,obA,obS,slL,slR,qAd]
 kernel_rfl
def zby_w:CQ:=qCn [] zby_c
theorem zby_ok:qAg Tryd.prog 86 zby_w:=qAw zby_val
def zbu_b0:IQ:=(.loop [0,1,5] (.seq (.seq (rg 9 [oM 6 t5,oM 7 t0,oP 8 (.len t7),oP 9 (.bi .lss t6 t8)]) (.cond t9 .skip (.cn [] (.exit 0)))) (.seq (.block 1 (.seq (rg 17 [oM 12 t0,oM 13 t5,oP 14 (.iaddr 1 t12 t13),oP 15 (.load none t14),oM 16 t1,oP 17 (.bi .eql t15 t16)]) (.cond t17 (.seq (rg 4 [oP 4 (.mv vT)]) (.cn [4] .ret)) .skip))) (rg 5 [oM 10 t5,oP 11 (.bi .add t10 (vI 1)),oM 5 t11]))))
def zbu_q:IQ:=(.seq (rg 4 [oP 4 (.mv vF)]) (.seq (.seq (rg 5 [oP 5 (.mv (vI 0))]) (.block 0 (.cn [0,1,5] (.sub 0 zbu_b0)))) (.seq (rg 4 [oP 4 (.mv vF)]) (.cn [4] .ret))))
theorem zbu_chk:chk Tryd.prog 88 []=some (zbu_q.erase,[.tmp 4],18):=by kernel_rfl
def qD1 (s:BA) (i:Int) (l:List BA):Option (Int ⊕ (Bool ⊕ Unit)) :=
 bif decide (i<(l.length:Int)) then (
  gd (0≤i∧i<l.length) <|
  gd ((Int.toNat i)<l.length) <|
  bif decide ((l.getD (Int.toNat i) (ET.dft .str))=s) then (
   some (.inr (.inl true)))
  else (
   gd (qAe (i+(1:Int))) <|
   some (.inl (i+(1:Int)))))
 else (
  some (.inr (.inr ())))
def zbu_p0 (s:BA) (i:Int) (l:List BA):Option (Bool ⊕ Unit) :=
 qA3 (fun x:Int=>qD1 s x l) i
def zbu_s (l:(List BA)) (s:BA):Option Bool :=
 (zbu_p0 s (0:Int) l).bind fun o1=>(Sum.elim (fun (o1_0:Bool) =>
  some o1_0) (fun (o1_1:Unit) =>
  some false)) o1
def zbu_G:Nat→Option CQ:=tblQ []
theorem zbu_Gok:∀f C,zbu_G f=some C→qAg Tryd.prog f C:=fun f C h=>by cases h
def zbu_d0:=(dQS (qAa (dSO 0 (dO 0)) (qAa (dSO 1 dS) (qAa (dSO 5 dZ) dNil))) (qAa (qAv .str) dNil))
def zbu_l0:SubQ:=mkL zbu_d0 (fun x=>zbu_p0 x.1.2.1 x.1.2.2.1 x.2.1) fun x r R kn kx kr=>(Sum.elim (fun (r_0:Bool)=>kr ⟨[sL 4 (.vB r_0)],[],[.view .str x.2.1]⟩) (fun (r_1:Unit)=>kx 0 ⟨[],[],[.view .str x.2.1]⟩)) r
def zbu_L:Nat→SubQ:=tblL [(0,zbu_l0)]
theorem zbu_sub0:qBf zbu_L zbu_G 1 6 18 0 zbu_b0:=qAu (show zbu_L 0=zbu_l0 from by kernel_rfl) fun x R kn kx kr=>qAq (step:=fun y=>qD1 x.1.2.1 y x.2.1) (enc:=fun (y:Int)=>zbu_d0.e ((x.1.1,x.1.2.1,y,x.1.2.2.2),x.2)) (fun y=>by kernel_rfl) (fun y ki=>by simp only [qD1,-eq_self,qAc,qAf,obA,obS,slL,slR,qAd]; kernel_rfl) x.1.2.2.1
theorem zbu_subs:qAr zbu_L zbu_G 1 6 18 zbu_q:=qAl (show qAt zbu_L zbu_G 1 6 18 [(0,zbu_b0)] from ⟨zbu_sub0,tV⟩)
def zbu_da:=(qAa (dVC (dCO (dO 0))) (qAa (dVC (dCO dS)) dNil))
def zbu_db:=(qAa (qAv .str) dNil)
def zbu_c:CS:=mkC zbu_da zbu_db (fun x y=>zbu_s y.1 x.2.1) (fun x y r=>.c (.o (.vB r))) fun x y r=>[.view .str y.1]
theorem zbu_val:qAn Tryd.prog 88 zbu_c:=qAo zbu_chk 6 zbu_Gok 1 (fun x=>Nat.le_of_ble_eq_true rfl) (fun y=>rfl) zbu_subs fun x y=>by
 simp only [zbu_s,-eq_self,qAc,qAf,obA,obS,slL,slR,qAd]
 kernel_rfl
def zbu_w:CQ:=qB4 [(0,none,some (.str,9))] (qCn [false] zbu_c)
theorem zbu_ok:qAg Tryd.prog 88 zbu_w:=qBx zbu_val
def zca_da:=(qAa (dVC (dCO (dO 0))) (qAa (dVC (dCO dZ)) (qAa (dVC (dCO dB)) (qAa (dVC (dCO dZ)) dNil))))
def zca_db:=(qAa (qAv .node) dNil)
def zca_cs (self:(List Eng.Node)→Int→Bool→Int→Option Int):CS:=mkC zca_da zca_db (fun x y=>self y.1 x.2.1 x.2.2.1 x.2.2.2.1) (fun x y r=>.c (.o (.vI r))) fun x y r=>[.view .node y.1]
def zca_ws (self:(List Eng.Node)→Int→Bool→Int→Option Int):CQ:=qB4 [(0,none,some (.node,46))] (qCn [false] (zca_cs self))
def zca_b0:IQ:=(.loop [0,3,9,12,13,14] (.seq (.seq (rg 58 [oM 55 t14,oP 56 (.faddr 5 t9),oP 57 (.load none t56),oP 58 (.bi .lss t55 t57)]) (.cond t58 .skip (.cn [12] (.exit 0)))) (.seq (.block 1 (.seq (rg 15 [oM 61 t12,oM 15 t61]) (.seq (rg 12 [oM 62 t0,oM 63 t15,oP 64 (.faddr 0 t9),oP 65 (.load none t64),oP 66 (.bi .eql t65 (vI 7)),oM 67 t3,oP 68 (.bi .add t67 (vI 1)),oP 69 (.call 61 [t62,t63,t66,t68]),oM 12 t69]) (.seq (.seq (rg 85 [oM 70 t12,oP 71 (.bi .lss t70 (vI 0)),oM 72 t71,oE 73 (.faddr 0 t9) 72,oE 74 (.load none t73) 72,oE 75 (.bi .eql t74 (vI 7)) 72,oE 76 (.mv t75) 72,oF 77 (.mv t13) 76,oF 78 (.mv t0) 76,oF 79 (.mv t15) 76,oF 80 (.iaddr 6 t78 t79) 76,oF 81 (.faddr 1 t80) 76,oF 82 (.load none t81) 76,oF 83 (.call 88 [t77,t82]) 76,oE 84 (.pick t76 t83 vF) 72,oP 85 (.pick t72 vT t84)]) (.cond t85 (.seq (rg 8 [oP 8 (.mv (.v (.int .i64 (-1))))]) (.cn [8] .ret)) .skip)) (rg 13 [oM 86 t13,oM 87 t0,oM 88 t15,oP 89 (.iaddr 6 t87 t88),oP 90 (.faddr 1 t89),oP 91 (.load none t90),oP 92 (.bslice 9 1 1 [.string ⟨#[]⟩] [(0,t91)]),oP 93 (.append 9 1 16 [.string ⟨#[]⟩] t86 t92),oM 13 t93]))))) (rg 14 [oM 59 t14,oP 60 (.bi .add t59 (vI 1)),oM 14 t60]))))
def zca_q:IQ:=(.seq (rg 8 [oP 8 (.mv (vI 0))]) (.seq (.seq (rg 19 [oM 16 t1,oM 17 t0,oP 18 (.len t17),oP 19 (.bi .geq t16 t18)]) (.cond t19 (.seq (rg 8 [oP 8 (.mv (.v (.int .i64 (-1))))]) (.cn [8] .ret)) .skip)) (.seq (rg 0 [oM 20 t0,oM 21 t1,oP 22 (.iaddr 6 t20 t21),oP 23 (.load (some 6) t22),oP 9 (.alloc 46 [.int .i64 0,.string ⟨#[]⟩,.string ⟨#[]⟩,.bool false,.int .i64 0,.int .i64 0]),oN (.store 6 t9 t23)]) (.seq (rg 10 [oP 24 (.load (some 6) t9),oP 25 (.call 86 [t24]),oM 10 t25]) (.seq (rg 11 [oP 26 (.faddr 1 t9),oP 27 (.load none t26),oP 28 (.call 87 [t27]),oM 11 t28]) (.seq (.seq (rg 52 [oM 29 t10,oP 30 (.un .not t29),oM 31 t30,oE 32 (.mv t11) 31,oE 33 (.un .not t32) 31,oP 34 (.pick t31 vT t33),oM 35 t34,oE 36 (.mv t2) 35,oE 37 (.un .not t36) 35,oE 38 (.mv t37) 35,oF 39 (.faddr 1 t9) 38,oF 40 (.load none t39) 38,oF 41 (.bi .neq t40 (.v (.string ⟨#[]⟩))) 38,oE 42 (.pick t38 t41 vF) 35,oP 43 (.pick t35 vT t42),oM 44 t43,oE 45 (.faddr 0 t9) 44,oE 46 (.load none t45) 44,oE 47 (.bi .geq t46 (vI 6)) 44,oE 48 (.mv t47) 44,oF 49 (.mv t3) 48,oF 50 (.bi .eql t49 (vI 32)) 48,oE 51 (.pick t48 t50 vF) 44,oP 52 (.pick t44 vT t51)]) (.cond t52 (.seq (rg 8 [oP 8 (.mv (.v (.int .i64 (-1))))]) (.cn [8] .ret)) .skip)) (.seq (rg 12 [oM 53 t1,oP 54 (.bi .add t53 (vI 1)),oM 12 t54]) (.seq (rg 13 [oP 13 (.mv (.v (.slice none 0 0)))]) (.seq (.seq (rg 14 [oP 14 (.mv (vI 0))]) (.block 0 (.canon [(13,none,.str,9)] [0,3,9,12,13,14] (.sub 0 zca_b0)))) (.seq (rg 8 [oM 94 t12,oM 8 t94]) (.cn [8] .ret)))))))))))
theorem zca_chk:chk Tryd.prog 61 []=some (zca_q.erase,[.tmp 8],95):=by kernel_rfl
def qCv (self:(List Eng.Node)→Int→Bool→Int→Option Int) (open_ next i:Int) (v:List Eng.Node) (qGy qG4:Int) (names:List BA):Option ((Int × Int × (List BA)) ⊕ (Int ⊕ Int)) :=
 bif decide (i<qG4) then (
  gd (qAe (open_+(1:Int))) <|
  (self v next (decide (qGy=(7:Int))) (open_+(1:Int))).bind fun r19 =>
  gd ((decide (qGy=(7:Int)))=true→(decide (r19<(0:Int)))=false→0≤next∧next<v.length) <|
  gd ((decide (qGy=(7:Int)))=true→(decide (r19<(0:Int)))=false→(Int.toNat next)<v.length) <|
  gd ((decide (qGy=(7:Int)))=true→(decide (r19<(0:Int)))=false→(Int.toNat next)<v.length) <|
  bif decide (r19<(0:Int)) then (
   some (.inr (.inl (-1:Int))))
  else (
   bif decide (qGy=(7:Int)) then (
    (zbu_s names ((v.getD (Int.toNat next) (ET.dft .node)).key)).bind fun r20 =>
    bif r20 then (
     some (.inr (.inl (-1:Int))))
    else (
     gd (0≤next∧next<v.length) <|
     gd ((Int.toNat next)<v.length) <|
     gd ((Int.toNat next)<v.length) <|
     gd (names.length+([(v.getD (Int.toNat next) (ET.dft .node)).key]:List BA).length≤9223372036854775807∧(names.length+([(v.getD (Int.toNat next) (ET.dft .node)).key]:List BA).length)*16≤140737488355328) <|
     gd (qAe (i+(1:Int))) <|
     some (.inl (r19,(i+(1:Int)),(names++[(v.getD (Int.toNat next) (ET.dft .node)).key])))))
   else (
    gd (0≤next∧next<v.length) <|
    gd ((Int.toNat next)<v.length) <|
    gd ((Int.toNat next)<v.length) <|
    gd (names.length+([(v.getD (Int.toNat next) (ET.dft .node)).key]:List BA).length≤9223372036854775807∧(names.length+([(v.getD (Int.toNat next) (ET.dft .node)).key]:List BA).length)*16≤140737488355328) <|
    gd (qAe (i+(1:Int))) <|
    some (.inl (r19,(i+(1:Int)),(names++[(v.getD (Int.toNat next) (ET.dft .node)).key]))))))
 else (
  some (.inr (.inr next)))
def zca_p0 (self:(List Eng.Node)→Int→Bool→Int→Option Int) (open_ next i:Int) (v:List Eng.Node) (qGy qG4:Int) (names:List BA):Option (Int ⊕ Int) :=
 qA3 (fun x:(Int × Int × (List BA))=>qCv self open_ x.1 x.2.1 v qGy qG4 x.2.2) (next,i,names)
def zca_t (self:(List Eng.Node)→Int→Bool→Int→Option Int) (v:(List Eng.Node)) (at_:Int) (object:Bool) (open_:Int):Option Int :=
 bif decide ((v.length:Int)≤at_) then (
  some (-1:Int))
 else (
  gd (0≤at_∧at_<v.length) <|
  gd ((Int.toNat at_)<v.length) <|
  (zby_s (v.getD (Int.toNat at_) (ET.dft .node))).bind fun r17 =>
  (zcb_s ((v.getD (Int.toNat at_) (ET.dft .node)).key)).bind fun r18 =>
  bif ((((!r17) || (!r18)) || ((!object) && (!decide (((v.getD (Int.toNat at_) (ET.dft .node)).key)=(⟨#[]⟩:BA))))) || ((decide ((6:Int)≤((v.getD (Int.toNat at_) (ET.dft .node)).kind))) && (decide (open_=(32:Int))))) then (
   some (-1:Int))
  else (
   gd (qAe (at_+(1:Int))) <|
   (zca_p0 self open_ (at_+(1:Int)) (0:Int) v ((v.getD (Int.toNat at_) (ET.dft .node)).kind) ((v.getD (Int.toNat at_) (ET.dft .node)).kids) []).bind fun o21=>(Sum.elim (fun (o21_0:Int) =>
    some o21_0) (fun (o21_1:Int) =>
    some o21_1)) o21))
def zca_G (self:(List Eng.Node)→Int→Bool→Int→Option Int):Nat→Option CQ:=tblQ [(86,zby_w),(87,zcb_w),(61,zca_ws self),(88,zbu_w)]
theorem zca_Gok (self:(List Eng.Node)→Int→Bool→Int→Option Int) (hself:qAg Tryd.prog 61 (zca_ws self)):∀f C,(zca_G self) f=some C→qAg Tryd.prog f C:=qAj ⟨zby_ok,zcb_ok,hself,zbu_ok,tV⟩
def zca_d0:=(dQS (qAa (dSO 0 (dO 0)) (qAa (dSO 3 dZ) (qAa (dSO 9 (dH 1 0)) (qAa (dSO 12 dZ) (qAa (dSO 13 (dO 2)) (qAa (dSO 14 dZ) dNil)))))) (qAa (qAv .node) (qAa (qAp 46 (qAa dZ (qAa dS (qAa dS (qAa dB (qAa dZ (qAa dZ dNil))))))) (qAa (dRow .str 9) dNil))))
def zca_l0 (self:(List Eng.Node)→Int→Bool→Int→Option Int):SubQ:=mkL zca_d0 (fun x=>zca_p0 self x.1.2.1 x.1.2.2.2.1 x.1.2.2.2.2.2.1 x.2.1 x.2.2.1.1 x.2.2.1.2.2.2.2.2.1 x.2.2.2.1) fun x r R kn kx kr=>(Sum.elim (fun (r_0:Int)=>kr ⟨[sL 8 (.vI r_0)],[],[.view .node x.2.1]⟩) (fun (r_1:Int)=>kx 0 ⟨[sL 12 (.vI r_1)],[],[.view .node x.2.1]⟩)) r
def zca_L (self:(List Eng.Node)→Int→Bool→Int→Option Int):Nat→SubQ:=tblL [(0,zca_l0 self)]
theorem zca_sub0 (self:(List Eng.Node)→Int→Bool→Int→Option Int):qBf (zca_L self) (zca_G self) 1 16 95 0 zca_b0:=qAu (show (zca_L self) 0=(zca_l0 self) from by kernel_rfl) fun x R kn kx kr=>qAq (step:=fun y=>qCv self x.1.2.1 y.1 y.2.1 x.2.1 x.2.2.1.1 x.2.2.1.2.2.2.2.2.1 y.2.2) (enc:=fun (y:Int × Int × (List BA))=>zca_d0.e ((x.1.1,x.1.2.1,x.1.2.2.1,y.1,x.1.2.2.2.2.1,y.2.1,x.1.2.2.2.2.2.2),(x.2.1,x.2.2.1,y.2.2,x.2.2.2.2))) (fun y=>by kernel_rfl) (fun y ki=>by simp only [qCv,-eq_self,qAc,qAf,obA,obS,slL,slR,qAd]; kernel_rfl) (x.1.2.2.2.1,x.1.2.2.2.2.2.1,x.2.2.2.1)
theorem zca_subs (self:(List Eng.Node)→Int→Bool→Int→Option Int):qAr (zca_L self) (zca_G self) 1 16 95 zca_q:=qAl (show qAt (zca_L self) (zca_G self) 1 16 95 [(0,zca_b0)] from ⟨(zca_sub0 self),tV⟩)
theorem zca_val_t (self:(List Eng.Node)→Int→Bool→Int→Option Int) (hself:qAg Tryd.prog 61 (zca_ws self)):qAn Tryd.prog 61 (zca_cs (zca_t self)):=qAo zca_chk 16 (zca_Gok self hself) 1 (fun x=>Nat.le_of_ble_eq_true rfl) (fun y=>rfl) (zca_subs self) fun x y=>by
 simp only [zca_t,-eq_self,qAc,qAf,obA,obS,slL,slR,qAd]
 kernel_rfl
def zca_n:Nat→(List Eng.Node)→Int→Bool→Int→Option Int
 | 0=>fun _ _ _ _=>none
 | n+1=>zca_t (zca_n n)
def zca_s (v:(List Eng.Node)) (at_:Int) (object:Bool) (open_:Int):Option Int:=evt fun n=>zca_n n v at_ object open_
theorem zca_valn:∀n,qAn Tryd.prog 61 (zca_cs (zca_n n))
 | 0=>qAn.zero fun args hp R k=>by
  show ((Dec.d zca_da args).bind fun x=>(Dec.d zca_db hp).bind fun y=>none)=none
  cases Dec.d zca_da args with
  | none=>rfl
  | some x=>cases Dec.d zca_db hp <;> rfl
 | n+1=>zca_val_t (zca_n n) (qBx (zca_valn n))
theorem zca_val:qAn Tryd.prog 61 (zca_cs zca_s):=qAn.evt zca_valn (fun args hp R k=>by
  show ((Dec.d zca_da args).bind fun x=>(Dec.d zca_db hp).bind fun y=>_)=(((Dec.d zca_da args).bind fun x=>(Dec.d zca_db hp).bind fun y=>_):Option (SV × List SB)).bind _
  cases Dec.d zca_da args with
  | none=>rfl
  | some x =>
   cases Dec.d zca_db hp with
   | none=>rfl
   | some y=>simp only [obS,Option.bind_assoc]) fun args hp v hp' h=>by
  obtain ⟨x,h1,h2⟩:=Option.bind_eq_some_iff.1 h
  obtain ⟨y,h3,h4⟩:=Option.bind_eq_some_iff.1 h2
  obtain ⟨r,h5,h6⟩:=Option.bind_eq_some_iff.1 h4
  obtain ⟨n,h7⟩:=evt_some h5
  refine ⟨n,?_⟩
  show ((Dec.d zca_da args).bind fun x=>(Dec.d zca_db hp).bind fun y=>_)=_
  rw [h1]
  simp only [obS]
  rw [h3]
  simp only [obS]
  exact (congrArg (fun z=>Option.bind z _) h7).trans h6
def zca_w:CQ:=zca_ws zca_s
theorem zca_ok:qAg Tryd.prog 61 zca_w:=qBx zca_val
def zbt_q:IQ:=(.seq (rg 2 [oP 2 (.mv vF)]) (.seq (rg 2 [oM 3 t0,oP 4 (.len t3),oP 5 (.bi .gtr t4 (vI 0)),oM 6 t5,oF 7 (.mv t0) 6,oF 8 (.call 61 [t7,(vI 0),vF,(vI 0)]) 6,oF 9 (.mv t0) 6,oF 10 (.len t9) 6,oF 11 (.bi .eql t8 t10) 6,oP 12 (.pick t6 t11 vF),oM 2 t12]) (.cn [2] .ret)))
theorem zbt_chk:chk Tryd.prog 33 []=some (zbt_q.erase,[.tmp 2],13):=by kernel_rfl
def zbt_s (v:(List Eng.Node)):Option Bool :=
 bif decide ((0:Int)<(v.length:Int)) then (
  (zca_s v (0:Int) false (0:Int)).bind fun r1 =>
  some (decide (r1=(v.length:Int))))
 else (
  some false)
def zbt_G:Nat→Option CQ:=tblQ [(61,zca_w)]
theorem zbt_Gok:∀f C,zbt_G f=some C→qAg Tryd.prog f C:=qAj ⟨zca_ok,tV⟩
def zbt_L:Nat→SubQ:=tblL []
theorem zbt_subs:qAr zbt_L zbt_G 1 3 13 zbt_q:=qAl (show qAt zbt_L zbt_G 1 3 13 [] from tV)
def zbt_da:=(qAa (dVC (dCO (dO 0))) dNil)
def zbt_db:=(qAa (qAv .node) dNil)
def zbt_c:CS:=mkC zbt_da zbt_db (fun x y=>zbt_s y.1) (fun x y r=>.c (.o (.vB r))) fun x y r=>[.view .node y.1]
theorem zbt_val:qAn Tryd.prog 33 zbt_c:=qAo zbt_chk 3 zbt_Gok 1 (fun x=>Nat.le_of_ble_eq_true rfl) (fun y=>rfl) zbt_subs fun x y=>by
 simp only [zbt_s,-eq_self,qAc,qAf,obA,obS,slL,slR,qAd]
 kernel_rfl
def zbt_w:CQ:=qB4 [(0,none,some (.node,46))] (qCn [false] zbt_c)
theorem zbt_ok:qAg Tryd.prog 33 zbt_w:=qBx zbt_val
def qB3 (self:(List Eng.Node)→Int→Option Int) (at_ next i:Int) (v:List Eng.Node):Option ((Int × Int) ⊕ Int) :=
 gd (0≤at_∧at_<v.length) <|
 gd ((Int.toNat at_)<v.length) <|
 gd ((Int.toNat at_)<v.length) <|
 bif ((decide (i<((v.getD (Int.toNat at_) (ET.dft .node)).kids))) && (decide ((0:Int)≤next))) then (
  (self v next).bind fun r3 =>
  gd (qAe (i+(1:Int))) <|
  some (.inl (r3,(i+(1:Int)))))
 else (
  some (.inr next))
def qB6 (self:(List Eng.Node)→Int→Option Int) (at_ next i:Int) (v:List Eng.Node):Option Int :=
 qA3 (fun x:(Int × Int)=>qB3 self at_ x.1 x.2 v) (next,i)
def qDb (self:(List Eng.Node)→Int→Option Int) (v:(List Eng.Node)) (at_:Int):Option Int :=
 bif ((decide (at_<(0:Int))) || (decide ((v.length:Int)≤at_))) then (
  some (-1:Int))
 else (
  gd (qAe (at_+(1:Int))) <|
  (qB6 self at_ (at_+(1:Int)) (0:Int) v).bind fun o4 =>
  some o4)
def qBt:Nat→(List Eng.Node)→Int→Option Int
 | 0=>fun _ _=>none
 | n+1=>qDb (qBt n)
def qE7 (v:(List Eng.Node)) (at_:Int):Option Int:=evt fun n=>qBt n v at_
def qCc (at_ next i:Int) (v:List Eng.Node) (out:List Int):Option ((Int × Int × (List Int)) ⊕ ((List Int))) :=
 gd (0≤at_∧at_<v.length) <|
 gd ((Int.toNat at_)<v.length) <|
 gd ((Int.toNat at_)<v.length) <|
 bif (((decide (i<((v.getD (Int.toNat at_) (ET.dft .node)).kids))) && (decide ((0:Int)≤next))) && (decide (next<(v.length:Int)))) then (
  gd (out.length+([next]:List Int).length≤9223372036854775807∧(out.length+([next]:List Int).length)*8≤140737488355328) <|
  (qE7 v next).bind fun r5 =>
  gd (qAe (i+(1:Int))) <|
  some (.inl (r5,(i+(1:Int)),(out++[next]))))
 else (
  some (.inr out))
def qCm (at_ next i:Int) (v:List Eng.Node) (out:List Int):Option ((List Int)) :=
 qA3 (fun x:(Int × Int × (List Int))=>qCc at_ x.1 x.2.1 v x.2.2) (next,i,out)
def qB7 (v:(List Eng.Node)) (at_:Int):Option ((List Int)) :=
 bif ((decide (at_<(0:Int))) || (decide ((v.length:Int)≤at_))) then (
  some [])
 else (
  gd (qAe (at_+(1:Int))) <|
  (qCm at_ (at_+(1:Int)) (0:Int) v []).bind fun o6 =>
  some o6)
def qBj (key:BA) (i:Int) (v:List Eng.Node) (l:List Int):Option (Int ⊕ (Int ⊕ Unit)) :=
 bif decide (i<(l.length:Int)) then (
  gd (0≤i∧i<l.length) <|
  gd ((Int.toNat i)<l.length) <|
  gd (0≤(l.getD (Int.toNat i) (ET.dft .i64))∧(l.getD (Int.toNat i) (ET.dft .i64))<v.length) <|
  gd ((Int.toNat (l.getD (Int.toNat i) (ET.dft .i64)))<v.length) <|
  gd ((Int.toNat (l.getD (Int.toNat i) (ET.dft .i64)))<v.length) <|
  bif decide (((v.getD (Int.toNat (l.getD (Int.toNat i) (ET.dft .i64))) (ET.dft .node)).key)=key) then (
   gd (0≤i∧i<l.length) <|
   gd ((Int.toNat i)<l.length) <|
   some (.inr (.inl (l.getD (Int.toNat i) (ET.dft .i64)))))
  else (
   gd (qAe (i+(1:Int))) <|
   some (.inl (i+(1:Int)))))
 else (
  some (.inr (.inr ())))
def qBn (key:BA) (i:Int) (v:List Eng.Node) (l:List Int):Option (Int ⊕ Unit) :=
 qA3 (fun x:Int=>qBj key x v l) i
def qBu (v:(List Eng.Node)) (at_:Int) (key:BA):Option Int :=
 gd (((decide (at_<(0:Int))) || (decide ((v.length:Int)≤at_)))=false→0≤at_∧at_<v.length) <|
 gd (((decide (at_<(0:Int))) || (decide ((v.length:Int)≤at_)))=false→(Int.toNat at_)<v.length) <|
 gd (((decide (at_<(0:Int))) || (decide ((v.length:Int)≤at_)))=false→(Int.toNat at_)<v.length) <|
 bif (((decide (at_<(0:Int))) || (decide ((v.length:Int)≤at_))) || (!decide (((v.getD (Int.toNat at_) (ET.dft .node)).kind)=(7:Int)))) then (
  some (-1:Int))
 else (
  (qB7 v at_).bind fun r2 =>
  (qBn key (0:Int) v r2).bind fun o3=>(Sum.elim (fun (o3_0:Int) =>
   some o3_0) (fun (o3_1:Unit) =>
   some (-1:Int))) o3)
def zam_b0:IQ:=(.loop [0,1,5] (.seq (.seq (rg 21 [oM 14 t5,oP 15 (.bi .gtr t14 (vI 0)),oM 16 t15,oF 17 (.mv t1) 16,oF 18 (.mv t0) 16,oF 19 (.len t18) 16,oF 20 (.bi .lss t17 t19) 16,oP 21 (.pick t16 t20 vF)]) (.cond t21 .skip (.cn [1] (.exit 0)))) (.seq (.block 1 (rg 5 [oM 24 t5,oM 25 t0,oM 26 t1,oP 27 (.iaddr 6 t25 t26),oP 28 (.faddr 5 t27),oP 29 (.load none t28),oP 30 (.bin true .sub t29 (vI 1)),oP 31 (.bin true .add t24 t30),oM 5 t31])) (rg 1 [oM 22 t1,oP 23 (.bi .add t22 (vI 1)),oM 1 t23]))))
def zam_q:IQ:=(.seq (rg 4 [oP 4 (.mv (vI 0))]) (.seq (.seq (rg 13 [oM 6 t1,oP 7 (.bi .lss t6 (vI 0)),oM 8 t7,oE 9 (.mv t1) 8,oE 10 (.mv t0) 8,oE 11 (.len t10) 8,oE 12 (.bi .geq t9 t11) 8,oP 13 (.pick t8 vT t12)]) (.cond t13 (.seq (rg 4 [oP 4 (.mv (.v (.int .i64 (-1))))]) (.cn [4] .ret)) .skip)) (.seq (.seq (rg 5 [oP 5 (.mv (vI 1))]) (.block 0 (.cn [0,1,5] (.sub 0 zam_b0)))) (.seq (rg 4 [oM 32 t1,oM 4 t32]) (.cn [4] .ret)))))
theorem zam_chk:chk Tryd.prog 56 [30,31]=some (zam_q.erase,[.tmp 4],33):=by kernel_rfl
def qD3 (at_ left:Int) (v:List Eng.Node):Option ((Int × Int) ⊕ Int) :=
 bif ((decide ((0:Int)<left)) && (decide (at_<(v.length:Int)))) then (
  gd (0≤at_∧at_<v.length) <|
  gd ((Int.toNat at_)<v.length) <|
  gd ((Int.toNat at_)<v.length) <|
  gd (qAe (at_+(1:Int))) <|
  some (.inl ((at_+(1:Int)),w64 (left+(w64 (((v.getD (Int.toNat at_) (ET.dft .node)).kids) - (1:Int)))))))
 else (
  some (.inr at_))
def zam_p0 (at_ left:Int) (v:List Eng.Node):Option Int :=
 qA3 (fun x:(Int × Int)=>qD3 x.1 x.2 v) (at_,left)
def zam_s (v:(List Eng.Node)) (at_:Int):Option Int :=
 bif ((decide (at_<(0:Int))) || (decide ((v.length:Int)≤at_))) then (
  some (-1:Int))
 else (
  (zam_p0 at_ (1:Int) v).bind fun o1 =>
  some o1)
def zam_G:Nat→Option CQ:=tblQ []
theorem zam_Gok:∀f C,zam_G f=some C→qAg Tryd.prog f C:=fun f C h=>by cases h
def zam_d0:=(dQS (qAa (dSO 0 (dO 0)) (qAa (dSO 1 dZ) (qAa (dSO 5 dZ) dNil))) (qAa (qAv .node) dNil))
def zam_l0:SubQ:=mkL zam_d0 (fun x=>zam_p0 x.1.2.1 x.1.2.2.1 x.2.1) fun x r R kn kx kr=>kx 0 ⟨[sL 1 (.vI r)],[],[.view .node x.2.1]⟩
def zam_L:Nat→SubQ:=tblL [(0,zam_l0)]
theorem zam_sub0:qBf zam_L zam_G 1 6 33 0 zam_b0:=qAu (show zam_L 0=zam_l0 from by kernel_rfl) fun x R kn kx kr=>qAq (step:=fun y=>qD3 y.1 y.2 x.2.1) (enc:=fun (y:Int × Int)=>zam_d0.e ((x.1.1,y.1,y.2,x.1.2.2.2),x.2)) (fun y=>by kernel_rfl) (fun y ki=>by simp only [qD3,-eq_self,qAc,qAf,obA,obS,slL,slR,qAd]; kernel_rfl) (x.1.2.1,x.1.2.2.1)
theorem zam_subs:qAr zam_L zam_G 1 6 33 zam_q:=qAl (show qAt zam_L zam_G 1 6 33 [(0,zam_b0)] from ⟨zam_sub0,tV⟩)
def zam_da:=(qAa (dVC (dCO (dO 0))) (qAa (dVC (dCO dZ)) dNil))
def zam_db:=(qAa (qAv .node) dNil)
def zam_c:CS:=mkC zam_da zam_db (fun x y=>zam_s y.1 x.2.1) (fun x y r=>.c (.o (.vI r))) fun x y r=>[.view .node y.1]
theorem zam_val:qAn Tryd.prog 56 zam_c:=qAo zam_chk 6 zam_Gok 1 (fun x=>Nat.le_of_ble_eq_true rfl) (fun y=>rfl) zam_subs fun x y=>by
 simp only [zam_s,-eq_self,qAc,qAf,obA,obS,slL,slR,qAd]
 kernel_rfl
def zam_w:CQ:=qB4 [(0,none,some (.node,46))] (qCn [false] zam_c)
theorem zam_ok:qAg Tryd.prog 56 zam_w:=qBx zam_val
def zan_b0:IQ:=(.loop [0,1,5,6,7] (.seq (.seq (rg 34 [oM 18 t7,oM 19 t0,oM 20 t1,oP 21 (.iaddr 6 t19 t20),oP 22 (.faddr 5 t21),oP 23 (.load none t22),oP 24 (.bi .lss t18 t23),oM 25 t24,oF 26 (.mv t6) 25,oF 27 (.bi .geq t26 (vI 0)) 25,oP 28 (.pick t25 t27 vF),oM 29 t28,oF 30 (.mv t6) 29,oF 31 (.mv t0) 29,oF 32 (.len t31) 29,oF 33 (.bi .lss t30 t32) 29,oP 34 (.pick t29 t33 vF)]) (.cond t34 .skip (.cn [5] (.exit 0)))) (.seq (.block 1 (.seq (rg 5 [oM 37 t5,oM 38 t6,oP 39 (.bslice 3 1 1 [.int .i64 0] [(0,t38)]),oP 40 (.append 3 1 8 [.int .i64 0] t37 t39),oM 5 t40]) (rg 6 [oM 41 t0,oM 42 t6,oP 43 (.call 56 [t41,t42]),oM 6 t43]))) (rg 7 [oM 35 t7,oP 36 (.bi .add t35 (vI 1)),oM 7 t36]))))
def zan_q:IQ:=(.seq (rg 4 [oP 4 (.mv (.v (.slice none 0 0)))]) (.seq (.seq (rg 15 [oM 8 t1,oP 9 (.bi .lss t8 (vI 0)),oM 10 t9,oE 11 (.mv t1) 10,oE 12 (.mv t0) 10,oE 13 (.len t12) 10,oE 14 (.bi .geq t11 t13) 10,oP 15 (.pick t10 vT t14)]) (.cond t15 (.seq (rg 4 [oP 4 (.mv (.v (.slice none 0 0)))]) (.canon [(4,none,.i64,3)] [4] .ret)) .skip)) (.seq (rg 5 [oP 5 (.mv (.v (.slice none 0 0)))]) (.seq (rg 6 [oM 16 t1,oP 17 (.bi .add t16 (vI 1)),oM 6 t17]) (.seq (.seq (rg 7 [oP 7 (.mv (vI 0))]) (.block 0 (.canon [(5,none,.i64,3)] [0,1,5,6,7] (.sub 0 zan_b0)))) (.seq (rg 4 [oM 44 t5,oM 4 t44]) (.canon [(4,none,.i64,3)] [4] .ret)))))))
theorem zan_chk:chk Tryd.prog 29 []=some (zan_q.erase,[.tmp 4],45):=by kernel_rfl
def qE6 (at_ next i:Int) (v:List Eng.Node) (out:List Int):Option ((Int × Int × (List Int)) ⊕ ((List Int))) :=
 gd (0≤at_∧at_<v.length) <|
 gd ((Int.toNat at_)<v.length) <|
 gd ((Int.toNat at_)<v.length) <|
 bif (((decide (i<((v.getD (Int.toNat at_) (ET.dft .node)).kids))) && (decide ((0:Int)≤next))) && (decide (next<(v.length:Int)))) then (
  gd (out.length+([next]:List Int).length≤9223372036854775807∧(out.length+([next]:List Int).length)*8≤140737488355328) <|
  (zam_s v next).bind fun r5 =>
  gd (qAe (i+(1:Int))) <|
  some (.inl (r5,(i+(1:Int)),(out++[next]))))
 else (
  some (.inr out))
def zan_p0 (at_ next i:Int) (v:List Eng.Node) (out:List Int):Option ((List Int)) :=
 qA3 (fun x:(Int × Int × (List Int))=>qE6 at_ x.1 x.2.1 v x.2.2) (next,i,out)
def zan_s (v:(List Eng.Node)) (at_:Int):Option ((List Int)) :=
 bif ((decide (at_<(0:Int))) || (decide ((v.length:Int)≤at_))) then (
  some [])
 else (
  gd (qAe (at_+(1:Int))) <|
  (zan_p0 at_ (at_+(1:Int)) (0:Int) v []).bind fun o6 =>
  some o6)
def zan_G:Nat→Option CQ:=tblQ [(56,zam_w)]
theorem zan_Gok:∀f C,zan_G f=some C→qAg Tryd.prog f C:=qAj ⟨zam_ok,tV⟩
def zan_d0:=(dQS (qAa (dSO 0 (dO 0)) (qAa (dSO 1 dZ) (qAa (dSO 5 (dO 1)) (qAa (dSO 6 dZ) (qAa (dSO 7 dZ) dNil))))) (qAa (qAv .node) (qAa (dRow .i64 3) dNil)))
def zan_l0:SubQ:=mkL zan_d0 (fun x=>zan_p0 x.1.2.1 x.1.2.2.2.1 x.1.2.2.2.2.1 x.2.1 x.2.2.1) fun x r R kn kx kr=>kx 0 ⟨[sL 5 (.own 1)],[],[.view .node x.2.1,.row .i64 3 r]⟩
def zan_L:Nat→SubQ:=tblL [(0,zan_l0)]
theorem zan_sub0:qBf zan_L zan_G 1 8 45 0 zan_b0:=qAu (show zan_L 0=zan_l0 from by kernel_rfl) fun x R kn kx kr=>qAq (step:=fun y=>qE6 x.1.2.1 y.1 y.2.1 x.2.1 y.2.2) (enc:=fun (y:Int × Int × (List Int))=>zan_d0.e ((x.1.1,x.1.2.1,x.1.2.2.1,y.1,y.2.1,x.1.2.2.2.2.2),(x.2.1,y.2.2,x.2.2.2))) (fun y=>by kernel_rfl) (fun y ki=>by simp only [qE6,-eq_self,qAc,qAf,obA,obS,slL,slR,qAd]; kernel_rfl) (x.1.2.2.2.1,x.1.2.2.2.2.1,x.2.2.1)
theorem zan_subs:qAr zan_L zan_G 1 8 45 zan_q:=qAl (show qAt zan_L zan_G 1 8 45 [(0,zan_b0)] from ⟨zan_sub0,tV⟩)
def zan_da:=(qAa (dVC (dCO (dO 0))) (qAa (dVC (dCO dZ)) dNil))
def zan_db:=(qAa (qAv .node) dNil)
def zan_c:CS:=mkC zan_da zan_db (fun x y=>zan_s y.1 x.2.1) (fun x y r=>.c (.o (.own 1))) fun x y r=>[.view .node y.1,.row .i64 3 r]
theorem zan_val:qAn Tryd.prog 29 zan_c:=qAo zan_chk 8 zan_Gok 1 (fun x=>Nat.le_of_ble_eq_true rfl) (fun y=>rfl) zan_subs fun x y=>by
 simp only [zan_s,-eq_self,qAc,qAf,obA,obS,slL,slR,qAd]
 kernel_rfl
def zan_w:CQ:=qB4 [(0,none,some (.node,46))] (qC6 [false] zan_c)
theorem zan_ok:qAg Tryd.prog 29 zan_w:=qAz zan_val
def zao_b0:IQ:=(.loop [0,1,2,7,8] (.seq (.seq (rg 43 [oM 27 t8,oM 28 t0,oM 29 t1,oP 30 (.iaddr 6 t28 t29),oP 31 (.faddr 5 t30),oP 32 (.load none t31),oP 33 (.bi .lss t27 t32),oM 34 t33,oF 35 (.mv t7) 34,oF 36 (.bi .geq t35 (vI 0)) 34,oP 37 (.pick t34 t36 vF),oM 38 t37,oF 39 (.mv t7) 38,oF 40 (.mv t0) 38,oF 41 (.len t40) 38,oF 42 (.bi .lss t39 t41) 38,oP 43 (.pick t38 t42 vF)]) (.cond t43 .skip (.cn [] (.exit 0)))) (.seq (.block 1 (.seq (.seq (rg 52 [oM 46 t0,oM 47 t7,oP 48 (.iaddr 6 t46 t47),oP 49 (.faddr 1 t48),oP 50 (.load none t49),oM 51 t2,oP 52 (.bi .eql t50 t51)]) (.cond t52 (.seq (rg 6 [oM 53 t7,oM 6 t53]) (.cn [6] .ret)) .skip)) (rg 7 [oM 54 t0,oM 55 t7,oP 56 (.call 56 [t54,t55]),oM 7 t56]))) (rg 8 [oM 44 t8,oP 45 (.bi .add t44 (vI 1)),oM 8 t45]))))
def zao_q:IQ:=(.seq (rg 6 [oP 6 (.mv (vI 0))]) (.seq (.seq (rg 24 [oM 9 t1,oP 10 (.bi .lss t9 (vI 0)),oM 11 t10,oE 12 (.mv t1) 11,oE 13 (.mv t0) 11,oE 14 (.len t13) 11,oE 15 (.bi .geq t12 t14) 11,oP 16 (.pick t11 vT t15),oM 17 t16,oE 18 (.mv t0) 17,oE 19 (.mv t1) 17,oE 20 (.iaddr 6 t18 t19) 17,oE 21 (.faddr 0 t20) 17,oE 22 (.load none t21) 17,oE 23 (.bi .neq t22 (vI 7)) 17,oP 24 (.pick t17 vT t23)]) (.cond t24 (.seq (rg 6 [oP 6 (.mv (.v (.int .i64 (-1))))]) (.cn [6] .ret)) .skip)) (.seq (rg 7 [oM 25 t1,oP 26 (.bi .add t25 (vI 1)),oM 7 t26]) (.seq (.seq (rg 8 [oP 8 (.mv (vI 0))]) (.block 0 (.cn [0,1,2,7,8] (.sub 0 zao_b0)))) (.seq (rg 6 [oP 6 (.mv (.v (.int .i64 (-1))))]) (.cn [6] .ret))))))
theorem zao_chk:chk Tryd.prog 21 []=some (zao_q.erase,[.tmp 6],57):=by kernel_rfl
def qB2 (at_:Int) (key:BA) (next i:Int) (v:List Eng.Node):Option ((Int × Int) ⊕ (Int ⊕ Unit)) :=
 gd (0≤at_∧at_<v.length) <|
 gd ((Int.toNat at_)<v.length) <|
 gd ((Int.toNat at_)<v.length) <|
 bif (((decide (i<((v.getD (Int.toNat at_) (ET.dft .node)).kids))) && (decide ((0:Int)≤next))) && (decide (next<(v.length:Int)))) then (
  gd (0≤next∧next<v.length) <|
  gd ((Int.toNat next)<v.length) <|
  gd ((Int.toNat next)<v.length) <|
  bif decide (((v.getD (Int.toNat next) (ET.dft .node)).key)=key) then (
   some (.inr (.inl next)))
  else (
   (zam_s v next).bind fun r3 =>
   gd (qAe (i+(1:Int))) <|
   some (.inl (r3,(i+(1:Int))))))
 else (
  some (.inr (.inr ())))
def zao_p0 (at_:Int) (key:BA) (next i:Int) (v:List Eng.Node):Option (Int ⊕ Unit) :=
 qA3 (fun x:(Int × Int)=>qB2 at_ key x.1 x.2 v) (next,i)
def zao_s (v:(List Eng.Node)) (at_:Int) (key:BA):Option Int :=
 gd (((decide (at_<(0:Int))) || (decide ((v.length:Int)≤at_)))=false→0≤at_∧at_<v.length) <|
 gd (((decide (at_<(0:Int))) || (decide ((v.length:Int)≤at_)))=false→(Int.toNat at_)<v.length) <|
 gd (((decide (at_<(0:Int))) || (decide ((v.length:Int)≤at_)))=false→(Int.toNat at_)<v.length) <|
 bif (((decide (at_<(0:Int))) || (decide ((v.length:Int)≤at_))) || (!decide (((v.getD (Int.toNat at_) (ET.dft .node)).kind)=(7:Int)))) then (
  some (-1:Int))
 else (
  gd (qAe (at_+(1:Int))) <|
  (zao_p0 at_ key (at_+(1:Int)) (0:Int) v).bind fun o4=>(Sum.elim (fun (o4_0:Int) =>
   some o4_0) (fun (o4_1:Unit) =>
   some (-1:Int))) o4)
def zao_G:Nat→Option CQ:=tblQ [(56,zam_w)]
theorem zao_Gok:∀f C,zao_G f=some C→qAg Tryd.prog f C:=qAj ⟨zam_ok,tV⟩
def zao_d0:=(dQS (qAa (dSO 0 (dO 0)) (qAa (dSO 1 dZ) (qAa (dSO 2 dS) (qAa (dSO 7 dZ) (qAa (dSO 8 dZ) dNil))))) (qAa (qAv .node) dNil))
def zao_l0:SubQ:=mkL zao_d0 (fun x=>zao_p0 x.1.2.1 x.1.2.2.1 x.1.2.2.2.1 x.1.2.2.2.2.1 x.2.1) fun x r R kn kx kr=>(Sum.elim (fun (r_0:Int)=>kr ⟨[sL 6 (.vI r_0)],[],[.view .node x.2.1]⟩) (fun (r_1:Unit)=>kx 0 ⟨[],[],[.view .node x.2.1]⟩)) r
def zao_L:Nat→SubQ:=tblL [(0,zao_l0)]
theorem zao_sub0:qBf zao_L zao_G 1 9 57 0 zao_b0:=qAu (show zao_L 0=zao_l0 from by kernel_rfl) fun x R kn kx kr=>qAq (step:=fun y=>qB2 x.1.2.1 x.1.2.2.1 y.1 y.2 x.2.1) (enc:=fun (y:Int × Int)=>zao_d0.e ((x.1.1,x.1.2.1,x.1.2.2.1,y.1,y.2,x.1.2.2.2.2.2),x.2)) (fun y=>by kernel_rfl) (fun y ki=>by simp only [qB2,-eq_self,qAc,qAf,obA,obS,slL,slR,qAd]; kernel_rfl) (x.1.2.2.2.1,x.1.2.2.2.2.1)
theorem zao_subs:qAr zao_L zao_G 1 9 57 zao_q:=qAl (show qAt zao_L zao_G 1 9 57 [(0,zao_b0)] from ⟨zao_sub0,tV⟩)
def zao_da:=(qAa (dVC (dCO (dO 0))) (qAa (dVC (dCO dZ)) (qAa (dVC (dCO dS)) dNil)))
def zao_db:=(qAa (qAv .node) dNil)
def zao_c:CS:=mkC zao_da zao_db (fun x y=>zao_s y.1 x.2.1 x.2.2.1) (fun x y r=>.c (.o (.vI r))) fun x y r=>[.view .node y.1]
theorem zao_val:qAn Tryd.prog 21 zao_c:=qAo zao_chk 9 zao_Gok 1 (fun x=>Nat.le_of_ble_eq_true rfl) (fun y=>rfl) zao_subs fun x y=>by
 simp only [zao_s,-eq_self,qAc,qAf,obA,obS,slL,slR,qAd]
 kernel_rfl
def zao_w:CQ:=qB4 [(0,none,some (.node,46))] (qCn [false] zao_c)
theorem zao_ok:qAg Tryd.prog 21 zao_w:=qBx zao_val
end
end Go.Proofs.YticplgndjpljiaaDoor
