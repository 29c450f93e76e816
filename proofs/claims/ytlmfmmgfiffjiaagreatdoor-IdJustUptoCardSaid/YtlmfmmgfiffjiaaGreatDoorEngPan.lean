/-
  Texts of a claim.
-/
import Derived.Shelf.Unicode.DecodeSlow
import Derived.WalkKit
import Derived.Below
import Derived.BigQuiet
import Derived.Shelf.Unicode.ValidAny
import Derived.Shelf.Unicode.DecodeAny
import Derived.Shelf.Lay
import Derived.Ground.NamesProg
import Derived.Test.YtlmfmmgfiffjiaaGreatDoorEngO
import Derived.Test.YtlmfmmgfiffjiaaGreatDoorProg
import Derived.Test.YtlmfmmgfiffjiaaGreatDoorPDecRef
import Derived.Test.YtlmfmmgfiffjiaaGreatDoorDecRel
set_option linter.unusedSimpArgs false
set_option linter.unusedVariables false
namespace Go.Proofs.YtlmfmmgfiffjiaaGreatDoor
open Go.Eng
set_option maxRecDepth 100000
noncomputable section
structure qHy where
 at_:Int
 l:(List Eng.Node)
 s:BA
 code:Int
 bad:Int
def zcm_b1:IQ:=(.loop [0,3,4] (.seq (.seq (rg 22 [oM 11 t3,oP 12 (.len t11),oP 13 (.bi .gtr t12 (vI 0)),oM 14 t13,oF 15 (.mv t3) 14,oF 16 (.mv t3) 14,oF 17 (.len t16) 14,oF 18 (.bi .sub t17 (vI 1)) 14,oF 19 (.iaddr 1 t15 t18) 14,oF 20 (.load none t19) 14,oF 21 (.bi .leq t20 (vI 0)) 14,oP 22 (.pick t14 t21 vF)]) (.cond t22 .skip (.cn [0,3,4] (.exit 2)))) (.block 3 (rg 3 [oM 23 t3,oM 24 t3,oP 25 (.len t24),oP 26 (.bi .sub t25 (vI 1)),oP 27 (.sub (some 1) t23 none (some t26)),oM 3 t27]))))
def zcm_b2:IQ:=(.join [] [0,3,4] (.seq (rg 3 [oM 43 t3,oM 44 t0,oM 45 t4,oP 46 (.iaddr 6 t44 t45),oP 47 (.faddr 5 t46),oP 48 (.load none t47),oP 49 (.bslice 3 1 1 [.int .i64 0] [(0,t48)]),oP 50 (.append 3 1 8 [.int .i64 0] t43 t49),oM 3 t50]) (.seq (rg 53 [oM 51 t3,oP 52 (.len t51),oP 53 (.bi .gtr t52 (vI 65536))]) (.cond t53 (.seq (rg 2 [oP 2 (.mv vT)]) (.cn [2] .ret)) .skip))))
def zcm_b0:IQ:=(.loop [0,3,4] (.seq (.seq (rg 8 [oM 5 t4,oM 6 t0,oP 7 (.len t6),oP 8 (.bi .lss t5 t7)]) (.cond t8 .skip (.cn [] (.exit 0)))) (.seq (.block 1 (.seq (.block 2 (.canon [(3,none,.i64,3)] [0,3,4] (.sub 1 zcm_b1))) (.seq (.seq (rg 30 [oM 28 t3,oP 29 (.len t28),oP 30 (.bi .gtr t29 (vI 0))]) (.cond t30 (rg 0 [oM 31 t3,oM 32 t3,oP 33 (.len t32),oP 34 (.bi .sub t33 (vI 1)),oM 35 t3,oM 36 t3,oP 37 (.len t36),oP 38 (.bi .sub t37 (vI 1)),oP 39 (.iaddr 1 t35 t38),oP 40 (.load none t39),oP 41 (.bi .sub t40 (vI 1)),oP 42 (.iaddr 1 t31 t34),oN (.store 1 t42 t41)]) .skip)) (.canon [(3,none,.i64,3)] [0,3,4] (.sub 2 zcm_b2))))) (rg 4 [oM 9 t4,oP 10 (.bi .add t9 (vI 1)),oM 4 t10]))))
def zcm_q:IQ:=(.seq (rg 2 [oP 2 (.mv vF)]) (.seq (rg 3 [oP 3 (.mv (.v (.slice none 0 0)))]) (.seq (.seq (rg 4 [oP 4 (.mv (vI 0))]) (.block 0 (.canon [(3,none,.i64,3)] [0,3,4] (.sub 0 zcm_b0)))) (.seq (rg 2 [oP 2 (.mv vF)]) (.cn [2] .ret)))))
def qD7 (open_:List Int):Option (((List Int)) ⊕ ((List Int))) :=
 gd ((decide ((0:Int)<(open_.length:Int)))=true→qAc ((open_.length:Int) - (1:Int))) <|
 gd ((decide ((0:Int)<(open_.length:Int)))=true→0≤((open_.length:Int) - (1:Int))∧((open_.length:Int) - (1:Int))<open_.length) <|
 gd ((decide ((0:Int)<(open_.length:Int)))=true→(Int.toNat ((open_.length:Int) - (1:Int)))<open_.length) <|
 bif ((decide ((0:Int)<(open_.length:Int))) && (decide ((open_.getD (Int.toNat ((open_.length:Int) - (1:Int))) (ET.dft .i64))≤(0:Int)))) then (
  gd (qAc ((open_.length:Int) - (1:Int))) <|
  gd (0≤((open_.length:Int) - (1:Int))∧((open_.length:Int) - (1:Int))≤open_.length) <|
  some (.inl (open_.take (Int.toNat ((open_.length:Int) - (1:Int))))))
 else (
  some (.inr open_))
def zcm_p1 (open_:List Int):Option ((List Int)) :=
 qAt (fun x:((List Int))=>qD7 x) open_
def zcm_p2 (i:Int) (v:List Eng.Node) (open_:List Int):Option (Bool ⊕ ((List Int))) :=
 gd (0≤i∧i<v.length) <|
 gd ((Int.toNat i)<v.length) <|
 gd ((Int.toNat i)<v.length) <|
 gd (open_.length+([(v.getD (Int.toNat i) (ET.dft .node)).kids]:List Int).length≤9223372036854775807∧(open_.length+([(v.getD (Int.toNat i) (ET.dft .node)).kids]:List Int).length)*8≤140737488355328) <|
 bif decide ((65536:Int)<((open_++[(v.getD (Int.toNat i) (ET.dft .node)).kids]).length:Int)) then (
  some (.inl true))
 else (
  some (.inr (open_++[(v.getD (Int.toNat i) (ET.dft .node)).kids])))
def qD6 (i:Int) (v:List Eng.Node) (open_:List Int):Option ((Int × (List Int)) ⊕ (Bool ⊕ Unit)) :=
 bif decide (i<(v.length:Int)) then (
  (zcm_p1 open_).bind fun o8 =>
  bif decide ((0:Int)<(o8.length:Int)) then (
   gd (qAc ((o8.length:Int) - (1:Int))) <|
   gd (qAc ((o8.length:Int) - (1:Int))) <|
   gd (0≤((o8.length:Int) - (1:Int))∧((o8.length:Int) - (1:Int))<o8.length) <|
   gd ((Int.toNat ((o8.length:Int) - (1:Int)))<o8.length) <|
   gd (qAc ((o8.getD (Int.toNat ((o8.length:Int) - (1:Int))) (ET.dft .i64)) - (1:Int))) <|
   gd (0≤((o8.length:Int) - (1:Int))∧((o8.length:Int) - (1:Int))<o8.length) <|
   gd ((Int.toNat ((o8.length:Int) - (1:Int)))<o8.length) <|
   (zcm_p2 i v (o8.set (Int.toNat ((o8.length:Int) - (1:Int))) ((o8.getD (Int.toNat ((o8.length:Int) - (1:Int))) (ET.dft .i64)) - (1:Int)))).bind fun o9=>(Sum.elim (fun (o9_0:Bool) =>
    some (.inr (.inl o9_0))) (fun (o9_1:(List Int)) =>
    gd (qAc (i+(1:Int))) <|
    some (.inl ((i+(1:Int)),o9_1)))) o9)
  else (
   (zcm_p2 i v o8).bind fun o10=>(Sum.elim (fun (o10_0:Bool) =>
    some (.inr (.inl o10_0))) (fun (o10_1:(List Int)) =>
    gd (qAc (i+(1:Int))) <|
    some (.inl ((i+(1:Int)),o10_1)))) o10))
 else (
  some (.inr (.inr ())))
def zcm_p0 (i:Int) (v:List Eng.Node) (open_:List Int):Option (Bool ⊕ Unit) :=
 qAt (fun x:(Int × (List Int))=>qD6 x.1 v x.2) (i,open_)
def zcm_s (v:(List Eng.Node)):Option Bool :=
 (zcm_p0 (0:Int) v []).bind fun o11=>(Sum.elim (fun (o11_0:Bool) =>
  some o11_0) (fun (o11_1:Unit) =>
  some false)) o11
def zcm_G:Nat→Option CQ:=tblQ []
def zDJR1:=(qAa (qBa .node) (qAa (dRow .i64 3) dNil))
def zDJR2:=(qAa (dSO 0 (dO 0)) (qAa (dSO 3 (dO 1)) (qAa (dSO 4 dZ) dNil)))
def zcm_d1:=(dQS zDJR2 zDJR1)
def zcm_l1:SubQ:=mkL zcm_d1 (fun x=>zcm_p1 x.2.2.1) fun x r R kn kx kr=>kx 2 ⟨[sL 0 (.own 0),sL 3 (.own 1),sL 4 (.vI x.1.2.2.1)],[],[.view .node x.2.1,.row .i64 3 r]⟩
def zcm_d2:=(dQS zDJR2 zDJR1)
def zcm_l2:SubQ:=mkL zcm_d2 (fun x=>zcm_p2 x.1.2.2.1 x.2.1 x.2.2.1) fun x r R kn kx kr=>(Sum.elim (fun (r_0:Bool)=>kr ⟨[sL 2 (.vB r_0)],[],[.view .node x.2.1]⟩) (fun (r_1:(List Int))=>kn ⟨[sL 0 (.own 0),sL 3 (.own 1),sL 4 (.vI x.1.2.2.1)],[],[.view .node x.2.1,.row .i64 3 r_1]⟩)) r
def zcm_d0:=(dQS zDJR2 zDJR1)
def zcm_l0:SubQ:=mkL zcm_d0 (fun x=>zcm_p0 x.1.2.2.1 x.2.1 x.2.2.1) fun x r R kn kx kr=>(Sum.elim (fun (r_0:Bool)=>kr ⟨[sL 2 (.vB r_0)],[],[.view .node x.2.1]⟩) (fun (r_1:Unit)=>kx 0 ⟨[],[],[.view .node x.2.1]⟩)) r
def zcm_L:Nat→SubQ:=tblL [(1,zcm_l1),(2,zcm_l2),(0,zcm_l0)]
theorem zcm_sub1:qA0 zcm_L zcm_G 1 5 54 1 zcm_b1:=qAh (show zcm_L 1=zcm_l1 from by kernel_rfl) fun x R kn kx kr=>qAg (step:=fun y=>qD7 y) (enc:=fun (y:(List Int))=>zcm_d1.e (x.1,(x.2.1,y,x.2.2.2))) (fun y=>by kernel_rfl) (fun y ki=>by simp only [qD7,-eq_self,sZ]; kernel_rfl) x.2.2.1
theorem zcm_sub2:qA0 zcm_L zcm_G 1 5 54 2 zcm_b2:=qAh (show zcm_L 2=zcm_l2 from by kernel_rfl) fun x R kn kx kr=>by
 simp only [zcm_p2,-eq_self,sZ];kernel_rfl
theorem zcm_sub0:qA0 zcm_L zcm_G 1 5 54 0 zcm_b0:=qAh (show zcm_L 0=zcm_l0 from by kernel_rfl) fun x R kn kx kr=>qAg (step:=fun y=>qD6 y.1 x.2.1 y.2) (enc:=fun (y:Int × (List Int))=>zcm_d0.e ((x.1.1,x.1.2.1,y.1,x.1.2.2.2),(x.2.1,y.2,x.2.2.2))) (fun y=>by kernel_rfl) (fun y ki=>by simp only [qD6,-eq_self,sZ]; kernel_rfl) (x.1.2.2.1,x.2.2.1)
def zcm_c:CS:=mkC (qAa (dVC (dCO (dO 0))) dNil) (qAa (qBa .node) dNil) (fun x y=>zcm_s y.1) (fun x y r=>.c (.o (.vB r))) fun x y r=>[.view .node y.1]
theorem zcm_val:qAf Tryz.prog 7 zcm_c:=vl1 zcm_q [.tmp 2] 54 5 1 (show qA3 zcm_L zcm_G 1 5 54 [(0,zcm_b0),(1,zcm_b1),(2,zcm_b2)] from ⟨zcm_sub0,zcm_sub1,zcm_sub2,tV⟩) (fun f C h=>by cases h) fun x y=>by
 simp only [zcm_s,-eq_self,sZ];kernel_rfl
def zcm_w:CQ:=qBs [(0,none,some (.node,47))] (qCc [false] zcm_c)
theorem zcm_ok:qAe Tryz.prog 7 zcm_w:=qB3 zcm_val
def zcp_q:IQ:=(.seq (rg 4 [oP 2 (.mv (vI 0)),oP 3 (.mv (vI 0)),oP 4 (.mv (vI 0))]) (.seq (.block 0 (.seq (rg 5 [oM 6 t0,oP 7 (.bi .lss t6 (vI 194)),oM 8 t7,oE 9 (.mv t0) 8,oE 10 (.bi .gtr t9 (vI 244)) 8,oP 11 (.pick t8 vT t10),oM 5 t11]) (.cond t5 (.seq (rg 4 [oP 2 (.mv (.v (.int .i64 (-1)))),oP 3 (.mv (vI 0)),oP 4 (.mv (vI 0))]) (.cn [2,3,4] .ret)) (.seq (rg 12 [oM 13 t0,oP 14 (.bi .lss t13 (vI 224)),oM 12 t14]) (.cond t12 (.seq (rg 4 [oP 2 (.mv (vI 1)),oP 3 (.mv (vI 128)),oP 4 (.mv (vI 191))]) (.cn [2,3,4] .ret)) (.seq (rg 15 [oM 16 t0,oP 17 (.bi .eql t16 (vI 224)),oM 15 t17]) (.cond t15 (.seq (rg 4 [oP 2 (.mv (vI 2)),oP 3 (.mv (vI 160)),oP 4 (.mv (vI 191))]) (.cn [2,3,4] .ret)) (.seq (rg 18 [oM 19 t0,oP 20 (.bi .eql t19 (vI 237)),oM 18 t20]) (.cond t18 (.seq (rg 4 [oP 2 (.mv (vI 2)),oP 3 (.mv (vI 128)),oP 4 (.mv (vI 159))]) (.cn [2,3,4] .ret)) (.seq (rg 21 [oM 22 t0,oP 23 (.bi .lss t22 (vI 240)),oM 21 t23]) (.cond t21 (.seq (rg 4 [oP 2 (.mv (vI 2)),oP 3 (.mv (vI 128)),oP 4 (.mv (vI 191))]) (.cn [2,3,4] .ret)) (.seq (rg 24 [oM 25 t0,oP 26 (.bi .eql t25 (vI 240)),oM 24 t26]) (.cond t24 (.seq (rg 4 [oP 2 (.mv (vI 3)),oP 3 (.mv (vI 144)),oP 4 (.mv (vI 191))]) (.cn [2,3,4] .ret)) (.seq (rg 27 [oM 28 t0,oP 29 (.bi .eql t28 (vI 244)),oM 27 t29]) (.cond t27 (.seq (rg 4 [oP 2 (.mv (vI 3)),oP 3 (.mv (vI 128)),oP 4 (.mv (vI 143))]) (.cn [2,3,4] .ret)) .skip))))))))))))))) (.seq (rg 4 [oP 2 (.mv (vI 3)),oP 3 (.mv (vI 128)),oP 4 (.mv (vI 191))]) (.cn [2,3,4] .ret))))
def zcp_s (c:Int):Option (Int × Int × Int) :=
 bif ((decide (c<(194:Int))) || (decide ((244:Int)<c))) then (
  some ((-1:Int),(0:Int),(0:Int)))
 else (
  bif decide (c<(224:Int)) then (
   some ((1:Int),(128:Int),(191:Int)))
  else (
   bif decide (c=(224:Int)) then (
    some ((2:Int),(160:Int),(191:Int)))
   else (
    bif decide (c=(237:Int)) then (
     some ((2:Int),(128:Int),(159:Int)))
    else (
     bif decide (c<(240:Int)) then (
      some ((2:Int),(128:Int),(191:Int)))
     else (
      bif decide (c=(240:Int)) then (
       some ((3:Int),(144:Int),(191:Int)))
      else (
       bif decide (c=(244:Int)) then (
        some ((3:Int),(128:Int),(143:Int)))
       else (
        some ((3:Int),(128:Int),(191:Int)))))))))
def zcp_c:CS:=mkC (qAa (dVC (dCO dZ)) dNil) dNil (fun x y=>zcp_s x.1) (fun x y r=>.tup [.o (.vI r.1),.o (.vI r.2.1),.o (.vI r.2.2)]) fun x y r=>[]
theorem zcp_val:qAf Tryz.prog 63 zcp_c:=vl0 zcp_q [.tmp 2,.tmp 3,.tmp 4] 30 5 0 [] trivial fun x y=>by
 simp only [zcp_s,-eq_self,sZ];kernel_rfl
def zcp_w:CQ:=qCc [] zcp_c
theorem zcp_ok:qAe Tryz.prog 63 zcp_w:=qAn zcp_val
def zcr_q:IQ:=(.seq (rg 4 [oP 4 (.alloc 92 [.int .i64 0,.slice none 0 0,.string ⟨#[]⟩,.int .i64 0,.int .i64 0])]) (.seq (rg 0 [oM 5 t0,oM 6 t1,oP 7 (.build [.int .i64 0,.slice none 0 0,.string ⟨#[]⟩,.int .i64 0,.int .i64 0] [(3,1,t5),(4,1,t6)]),oN (.store 5 t4 t7)]) (.canon [(4,some 1,.node,47)] [4] .ret)))
def zcr_s (e at_:Int):Option qHy :=
 some (⟨(0:Int),[],(⟨#[]⟩:BA),e,at_⟩:qHy)
def zcr_c:CS:=mkC (qAa (dVC (dCO dZ)) (qAa (dVC (dCO dZ)) dNil)) dNil (fun x y=>zcr_s x.1 x.2.1) (fun x y r=>.c (.agg [.vI r.at_,.own 0,.vS r.s,.vI r.code,.vI r.bad])) fun x y r=>[.row .node 47 r.l]
theorem zcr_val:qAf Tryz.prog 64 zcr_c:=vl0 zcr_q [.cell 4 (some 5)] 8 5 0 [] trivial fun x y=>by
 simp only [zcr_s,-eq_self,sZ];kernel_rfl
def zcr_w:CQ:=qB4 [] zcr_c
theorem zcr_ok:qAe Tryz.prog 64 zcr_w:=qBw zcr_val
def zcq_q:IQ:=(.seq (rg 4 [oP 4 (.mv (vI 0))]) (.seq (.seq (rg 8 [oM 5 t1,oM 6 t0,oP 7 (.lenS t6),oP 8 (.bi .geq t5 t7)]) (.cond t8 (.seq (rg 4 [oP 4 (.mv (.v (.int .i64 (-1))))]) (.cn [4] .ret)) .skip)) (.seq (rg 4 [oM 9 t0,oM 10 t1,oP 11 (.index t9 t10),oP 12 (.conv false .i64 t11),oM 4 t12]) (.cn [4] .ret))))
def zcq_s (t:BA) (at_:Int):Option Int :=
 bif decide ((t.size:Int)≤at_) then (
  some (-1:Int))
 else (
  gd (0≤at_∧at_<t.size) <|
  gd (qAc (bAt t at_)) <|
  some (bAt t at_))
def zcq_c:CS:=mkC (qAa (dVC (dCO dS)) (qAa (dVC (dCO dZ)) dNil)) dNil (fun x y=>zcq_s x.1 x.2.1) (fun x y r=>.c (.o (.vI r))) fun x y r=>[]
theorem zcq_val:qAf Tryz.prog 65 zcq_c:=vl0 zcq_q [.tmp 4] 13 5 0 [] trivial fun x y=>by
 simp only [zcq_s,-eq_self,sZ];kernel_rfl
def zcq_w:CQ:=qCc [] zcq_c
theorem zcq_ok:qAe Tryz.prog 65 zcq_w:=qAn zcq_val
def zct_b0:IQ:=(.loop [0,1,4,5,6,7,8] (.seq (.seq (rg 25 [oM 23 t8,oM 24 t5,oP 25 (.bi .leq t23 t24)]) (.cond t25 .skip (.cn [0,1,4,5] (.exit 0)))) (.seq (.block 1 (.seq (rg 9 [oM 28 t0,oM 29 t1,oM 30 t8,oP 31 (.bi .add t29 t30),oP 32 (.call 65 [t28,t31]),oM 9 t32]) (.seq (.seq (rg 34 [oM 33 t9,oP 34 (.bi .lss t33 (vI 0))]) (.cond t34 (.seq (rg 0 [oM 35 t0,oP 36 (.lenS t35),oP 37 (.call 64 [(vI 31),t36]),oN (.store 5 t4 t37)]) (.canon [(4,some 1,.node,47)] [4] .ret)) .skip)) (.seq (.seq (rg 45 [oM 38 t9,oM 39 t6,oP 40 (.bi .lss t38 t39),oM 41 t40,oE 42 (.mv t9) 41,oE 43 (.mv t7) 41,oE 44 (.bi .gtr t42 t43) 41,oP 45 (.pick t41 vT t44)]) (.cond t45 (.seq (rg 0 [oM 46 t1,oP 47 (.call 64 [(vI 32),t46]),oN (.store 5 t4 t47)]) (.canon [(4,some 1,.node,47)] [4] .ret)) .skip)) (.seq (rg 6 [oP 6 (.mv (vI 128))]) (rg 7 [oP 7 (.mv (vI 191))])))))) (rg 8 [oM 26 t8,oP 27 (.bi .add t26 (vI 1)),oM 8 t27]))))
def zct_q:IQ:=(.seq (rg 4 [oP 4 (.alloc 92 [.int .i64 0,.slice none 0 0,.string ⟨#[]⟩,.int .i64 0,.int .i64 0])]) (.seq (rg 7 [oM 11 t0,oM 12 t1,oP 13 (.index t11 t12),oP 14 (.conv false .i64 t13),oP 15 (.call 63 [t14]),oM 10 t15,oP 16 (.extract t10 0),oP 17 (.extract t10 1),oP 18 (.extract t10 2),oM 5 t16,oM 6 t17,oM 7 t18]) (.seq (.seq (rg 20 [oM 19 t5,oP 20 (.bi .lss t19 (vI 0))]) (.cond t20 (.seq (rg 0 [oM 21 t1,oP 22 (.call 64 [(vI 32),t21]),oN (.store 5 t4 t22)]) (.canon [(4,some 1,.node,47)] [4] .ret)) .skip)) (.seq (.seq (rg 8 [oP 8 (.mv (vI 1))]) (.block 0 (.cn [0,1,4,5,6,7,8] (.sub 0 zct_b0)))) (.seq (rg 0 [oM 48 t1,oM 49 t5,oP 50 (.bi .add t48 t49),oP 51 (.bi .add t50 (vI 1)),oM 52 t0,oM 53 t1,oM 54 t1,oM 55 t5,oP 56 (.bi .add t54 t55),oP 57 (.bi .add t56 (vI 1)),oP 58 (.sub none t52 (some t53) (some t57)),oP 59 (.build [.int .i64 0,.slice none 0 0,.string ⟨#[]⟩,.int .i64 0,.int .i64 0] [(0,1,t51),(2,1,t58)]),oN (.store 5 t4 t59)]) (.canon [(4,some 1,.node,47)] [4] .ret))))))
def qDa (t:BA) (at_ n low high i:Int):Option ((Int × Int × Int) ⊕ ((Int × BA × Int × Int × (List Eng.Node)) ⊕ Unit)) :=
 bif decide (i≤n) then (
  gd (qAc (at_+i)) <|
  (zcq_s t (at_+i)).bind fun r18 =>
  bif decide (r18<(0:Int)) then (
   (zcr_s (31:Int) (t.size:Int)).bind fun r19 =>
   some (.inr (.inl (r19.at_,r19.s,r19.code,r19.bad,r19.l))))
  else (
   bif ((decide (r18<low)) || (decide (high<r18))) then (
    (zcr_s (32:Int) at_).bind fun r20 =>
    some (.inr (.inl (r20.at_,r20.s,r20.code,r20.bad,r20.l))))
   else (
    gd (qAc (i+(1:Int))) <|
    some (.inl ((128:Int),(191:Int),(i+(1:Int)))))))
 else (
  some (.inr (.inr ())))
def zct_p0 (t:BA) (at_ n low high i:Int):Option ((Int × BA × Int × Int × (List Eng.Node)) ⊕ Unit) :=
 qAt (fun x:(Int × Int × Int)=>qDa t at_ n x.1 x.2.1 x.2.2) (low,high,i)
def zct_s (t:BA) (at_:Int):Option qHy :=
 gd (0≤at_∧at_<t.size) <|
 gd (qAc (bAt t at_)) <|
 (zcp_s (bAt t at_)).bind fun r16 =>
 bif decide (r16.1<(0:Int)) then (
  (zcr_s (32:Int) at_).bind fun r17 =>
  some r17)
 else (
  (zct_p0 t at_ r16.1 r16.2.1 r16.2.2 (1:Int)).bind fun o21=>(Sum.elim (fun (o21_0:Int × BA × Int × Int × (List Eng.Node)) =>
   some (⟨o21_0.1,o21_0.2.2.2.2,o21_0.2.1,o21_0.2.2.1,o21_0.2.2.2.1⟩:qHy)) (fun (o21_1:Unit) =>
   gd (qAc (at_+r16.1)) <|
   gd (qAc ((at_+r16.1)+(1:Int))) <|
   gd (qAc (at_+r16.1)) <|
   gd (qAc ((at_+r16.1)+(1:Int))) <|
   gd (0≤at_∧at_≤((at_+r16.1)+(1:Int))∧((at_+r16.1)+(1:Int))≤t.size) <|
   some (⟨((at_+r16.1)+(1:Int)),[],(t.extract (Int.toNat at_) (Int.toNat ((at_+r16.1)+(1:Int)))),(0:Int),(0:Int)⟩:qHy))) o21)
def zct_G:Nat→Option CQ:=tblQ [(63,zcp_w),(64,zcr_w),(65,zcq_w)]
def zct_d0:=(dQS (qAa (dSO 0 dS) (qAa (dSO 1 dZ) (qAa (dSO 4 (dH 0 0)) (qAa (dSO 5 dZ) (qAa (dSO 6 dZ) (qAa (dSO 7 dZ) (qAa (dSO 8 dZ) dNil))))))) (qAa (qBi 92 (qAa dZ (qAa dNS (qAa dS (qAa dZ (qAa dZ dNil)))))) dNil))
def zct_l0:SubQ:=mkL zct_d0 (fun x=>zct_p0 x.1.1 x.1.2.1 x.1.2.2.2.1 x.1.2.2.2.2.1 x.1.2.2.2.2.2.1 x.1.2.2.2.2.2.2.1) fun x r R kn kx kr=>(Sum.elim (fun (r_0:Int × BA × Int × Int × (List Eng.Node))=>kr ⟨[sL 4 (.hd 0 0)],[],[.cells 92 [.vI r_0.1,.own 1,.vS r_0.2.1,.vI r_0.2.2.1,.vI r_0.2.2.2.1],.row .node 47 r_0.2.2.2.2]⟩) (fun (r_1:Unit)=>kx 0 ⟨[sL 0 (.vS x.1.1),sL 1 (.vI x.1.2.1),sL 4 (.hd 0 0),sL 5 (.vI x.1.2.2.2.1)],[],[.cells 92 [.vI x.2.1.1,.val (.slice none 0 0),.vS x.2.1.2.2.1,.vI x.2.1.2.2.2.1,.vI x.2.1.2.2.2.2.1]]⟩)) r
def zct_L:Nat→SubQ:=tblL [(0,zct_l0)]
theorem zct_sub0:qA0 zct_L zct_G 0 10 60 0 zct_b0:=qAh (show zct_L 0=zct_l0 from by kernel_rfl) fun x R kn kx kr=>qAg (step:=fun y=>qDa x.1.1 x.1.2.1 x.1.2.2.2.1 y.1 y.2.1 y.2.2) (enc:=fun (y:Int × Int × Int)=>zct_d0.e ((x.1.1,x.1.2.1,x.1.2.2.1,x.1.2.2.2.1,y.1,y.2.1,y.2.2,x.1.2.2.2.2.2.2.2),x.2)) (fun y=>by kernel_rfl) (fun y ki=>by simp only [qDa,-eq_self,sZ]; kernel_rfl) (x.1.2.2.2.2.1,x.1.2.2.2.2.2.1,x.1.2.2.2.2.2.2.1)
def zct_c:CS:=mkC (qAa (dVC (dCO dS)) (qAa (dVC (dCO dZ)) dNil)) dNil (fun x y=>zct_s x.1 x.2.1) (fun x y r=>.c (.agg [.vI r.at_,.own 0,.vS r.s,.vI r.code,.vI r.bad])) fun x y r=>[.row .node 47 r.l]
theorem zct_val:qAf Tryz.prog 51 zct_c:=vl1 zct_q [.cell 4 (some 5)] 60 10 0 (show qA3 zct_L zct_G 0 10 60 [(0,zct_b0)] from ⟨zct_sub0,tV⟩) (qAq ⟨zcp_ok,zcr_ok,zcq_ok,tV⟩) fun x y=>by
 simp only [zct_s,-eq_self,sZ];kernel_rfl
def zct_w:CQ:=qB4 [] zct_c
theorem zct_ok:qAe Tryz.prog 51 zct_w:=qBw zct_val
def zcv_b0:IQ:=(.loop [0,3] (.seq (.seq (rg 8 [oM 5 t3,oM 6 t0,oP 7 (.lenS t6),oP 8 (.bi .lss t5 t7)]) (.cond t8 .skip (.cn [] (.exit 0)))) (.block 1 (.seq (.seq (rg 12 [oM 9 t0,oM 10 t3,oP 11 (.index t9 t10),oP 12 (.bi .lss t11 (vC 128))]) (.cond t12 (.seq (rg 3 [oM 13 t3,oP 14 (.bi .add t13 (vI 1)),oM 3 t14]) (.exit 1)) .skip)) (.seq (rg 0 [oM 15 t0,oM 16 t3,oP 17 (.call 51 [t15,t16]),oP 4 (.alloc 92 [.int .i64 0,.slice none 0 0,.string ⟨#[]⟩,.int .i64 0,.int .i64 0]),oN (.store 5 t4 t17)]) (.seq (.seq (rg 20 [oP 18 (.faddr 3 t4),oP 19 (.load none t18),oP 20 (.bi .neq t19 (vI 0))]) (.cond t20 (.seq (rg 2 [oP 2 (.mv vF)]) (.cn [2] .ret)) .skip)) (rg 3 [oP 21 (.faddr 0 t4),oP 22 (.load none t21),oM 3 t22])))))))
def zcv_q:IQ:=(.seq (rg 2 [oP 2 (.mv vF)]) (.seq (rg 3 [oP 3 (.mv (vI 0))]) (.seq (.block 0 (.cn [0,3] (.sub 0 zcv_b0))) (.seq (rg 2 [oP 2 (.mv vT)]) (.cn [2] .ret)))))
def qDb (s:BA) (at_:Int):Option (Int ⊕ (Bool ⊕ Unit)) :=
 bif decide (at_<(s.size:Int)) then (
  gd (0≤at_∧at_<s.size) <|
  bif decide ((bAt s at_)<(128:Int)) then (
   gd (qAc (at_+(1:Int))) <|
   some (.inl (at_+(1:Int))))
  else (
   (zct_s s at_).bind fun r1 =>
   bif (!decide (r1.code=(0:Int))) then (
    some (.inr (.inl false)))
   else (
    some (.inl r1.at_))))
 else (
  some (.inr (.inr ())))
def zcv_p0 (s:BA) (at_:Int):Option (Bool ⊕ Unit) :=
 qAt (fun x:Int=>qDb s x) at_
def zcv_s (s:BA):Option Bool :=
 (zcv_p0 s (0:Int)).bind fun o2=>(Sum.elim (fun (o2_0:Bool) =>
  some o2_0) (fun (o2_1:Unit) =>
  some true)) o2
def zcv_G:Nat→Option CQ:=tblQ [(51,zct_w)]
def zcv_d0:=(dQS (qAa (dSO 0 dS) (qAa (dSO 3 dZ) dNil)) dNil)
def zcv_l0:SubQ:=mkL zcv_d0 (fun x=>zcv_p0 x.1.1 x.1.2.1) fun x r R kn kx kr=>(Sum.elim (fun (r_0:Bool)=>kr ⟨[sL 2 (.vB r_0)],[],[]⟩) (fun (r_1:Unit)=>kx 0 ⟨[],[],[]⟩)) r
def zcv_L:Nat→SubQ:=tblL [(0,zcv_l0)]
theorem zcv_sub0:qA0 zcv_L zcv_G 0 5 23 0 zcv_b0:=qAh (show zcv_L 0=zcv_l0 from by kernel_rfl) fun x R kn kx kr=>qAg (step:=fun y=>qDb x.1.1 y) (enc:=fun (y:Int)=>zcv_d0.e ((x.1.1,y,x.1.2.2),x.2)) (fun y=>by kernel_rfl) (fun y ki=>by simp only [qDb,-eq_self,sZ]; kernel_rfl) x.1.2.1
def zcv_c:CS:=mkC (qAa (dVC (dCO dS)) dNil) dNil (fun x y=>zcv_s x.1) (fun x y r=>.c (.o (.vB r))) fun x y r=>[]
theorem zcv_val:qAf Tryz.prog 34 zcv_c:=vl1 zcv_q [.tmp 2] 23 5 0 (show qA3 zcv_L zcv_G 0 5 23 [(0,zcv_b0)] from ⟨zcv_sub0,tV⟩) (qAq ⟨zct_ok,tV⟩) fun x y=>by
 simp only [zcv_s,-eq_self,sZ];kernel_rfl
def zcv_w:CQ:=qCc [] zcv_c
theorem zcv_ok:qAe Tryz.prog 34 zcv_w:=qAn zcv_val
def zcs_q:IQ:=(.seq (rg 2 [oP 1 (.box 47 6 t0),oP 2 (.mv vF)]) (.seq (rg 3 [oP 8 (.faddr 0 t1),oP 9 (.load none t8),oM 3 t9]) (.seq (.seq (rg 29 [oM 10 t3,oP 11 (.bi .lss t10 (vI 1)),oM 12 t11,oE 13 (.mv t3) 12,oE 14 (.bi .gtr t13 (vI 7)) 12,oP 15 (.pick t12 vT t14),oM 16 t15,oE 17 (.faddr 5 t1) 16,oE 18 (.load none t17) 16,oE 19 (.bi .lss t18 (vI 0)) 16,oP 20 (.pick t16 vT t19),oM 21 t20,oE 22 (.faddr 5 t1) 21,oE 23 (.load none t22) 21,oE 24 (.bi .gtr t23 (vI 0)) 21,oE 25 (.mv t24) 21,oF 26 (.mv t3) 25,oF 27 (.bi .lss t26 (vI 6)) 25,oE 28 (.pick t25 t27 vF) 21,oP 29 (.pick t21 vT t28)]) (.cond t29 (.seq (rg 2 [oP 2 (.mv vF)]) (.cn [2] .ret)) .skip)) (.seq (rg 5 [oP 31 (.faddr 2 t1),oP 32 (.load none t31),oP 33 (.call 49 [t32]),oM 30 t33,oP 34 (.extract t30 0),oP 35 (.extract t30 1),oM 4 t34,oM 5 t35]) (.seq (rg 6 [oP 36 (.faddr 2 t1),oP 37 (.load none t36),oP 38 (.call 50 [t37]),oM 6 t38]) (.seq (rg 7 [oP 39 (.faddr 2 t1),oP 40 (.load none t39),oP 41 (.call 34 [t40]),oM 7 t41]) (.seq (.block 0 (.seq (rg 42 [oM 43 t3,oP 44 (.bi .eql t43 (vI 4)),oM 42 t44]) (.cond t42 (.seq (rg 2 [oM 45 t6,oM 46 t45,oF 47 (.mv t5) 46,oF 48 (.faddr 3 t1) 46,oF 49 (.load none t48) 46,oF 50 (.beq false t47 t49) 46,oP 51 (.pick t46 t50 vF),oM 52 t51,oF 53 (.mv t4) 52,oF 54 (.faddr 4 t1) 52,oF 55 (.load none t54) 52,oF 56 (.bi .eql t53 t55) 52,oP 57 (.pick t52 t56 vF),oM 2 t57]) (.cn [2] .ret)) (.seq (rg 58 [oP 59 (.faddr 3 t1),oP 60 (.load none t59),oM 61 t60,oE 62 (.faddr 4 t1) 61,oE 63 (.load none t62) 61,oE 64 (.bi .neq t63 (vI 0)) 61,oP 65 (.pick t61 vT t64),oM 58 t65]) (.cond t58 (.seq (rg 2 [oP 2 (.mv vF)]) (.cn [2] .ret)) (.seq (rg 66 [oM 67 t3,oP 68 (.bi .eql t67 (vI 5)),oM 66 t68]) (.cond t66 (.seq (rg 2 [oM 69 t7,oM 2 t69]) (.cn [2] .ret)) .skip))))))) (.seq (rg 2 [oP 70 (.faddr 2 t1),oP 71 (.load none t70),oP 72 (.bi .eql t71 (.v (.string ⟨#[]⟩))),oM 2 t72]) (.cn [2] .ret)))))))))
def zcs_s (n:Eng.Node):Option Bool :=
 bif ((((decide (n.kind<(1:Int))) || (decide ((7:Int)<n.kind))) || (decide (n.kids<(0:Int)))) || ((decide ((0:Int)<n.kids)) && (decide (n.kind<(6:Int))))) then (
  some false)
 else (
  (zcj_s n.text).bind fun r1 =>
  (zci_s n.text).bind fun r2 =>
  (zcv_s n.text).bind fun r3 =>
  bif decide (n.kind=(4:Int)) then (
   some ((r2 && (r1.2 == n.whole)) && (decide (r1.1=n.int))))
  else (
   bif (n.whole || (!decide (n.int=(0:Int)))) then (
    some false)
   else (
    bif decide (n.kind=(5:Int)) then (
     some r3)
    else (
     some (decide (n.text=(⟨#[]⟩:BA)))))))
def zcs_c:CS:=mkC (qAa (dVC (dCA (qAa dZ (qAa dS (qAa dS (qAa dB (qAa dZ (qAa dZ dNil)))))))) dNil) dNil (fun x y=>zcs_s (⟨x.1.1,x.1.2.1,x.1.2.2.1,x.1.2.2.2.1,x.1.2.2.2.2.1,x.1.2.2.2.2.2.1⟩:Eng.Node)) (fun x y r=>.c (.o (.vB r))) fun x y r=>[]
theorem zcs_val:qAf Tryz.prog 33 zcs_c:=vl0 zcs_q [.tmp 2] 73 8 0 [(49,zcj_w),(50,zci_w),(34,zcv_w)] ⟨zcj_ok,zci_ok,zcv_ok,tV⟩ fun x y=>by
 simp only [zcs_s,-eq_self,sZ];kernel_rfl
def zcs_w:CQ:=qCc [] zcs_c
theorem zcs_ok:qAe Tryz.prog 33 zcs_w:=qAn zcs_val
def zco_b0:IQ:=(.loop [0,1,5] (.seq (.seq (rg 9 [oM 6 t5,oM 7 t0,oP 8 (.len t7),oP 9 (.bi .lss t6 t8)]) (.cond t9 .skip (.cn [] (.exit 0)))) (.seq (.block 1 (.seq (rg 17 [oM 12 t0,oM 13 t5,oP 14 (.iaddr 1 t12 t13),oP 15 (.load none t14),oM 16 t1,oP 17 (.bi .eql t15 t16)]) (.cond t17 (.seq (rg 4 [oP 4 (.mv vT)]) (.cn [4] .ret)) .skip))) (rg 5 [oM 10 t5,oP 11 (.bi .add t10 (vI 1)),oM 5 t11]))))
def zco_q:IQ:=(.seq (rg 4 [oP 4 (.mv vF)]) (.seq (.seq (rg 5 [oP 5 (.mv (vI 0))]) (.block 0 (.cn [0,1,5] (.sub 0 zco_b0)))) (.seq (rg 4 [oP 4 (.mv vF)]) (.cn [4] .ret))))
def qD8 (s:BA) (i:Int) (l:List BA):Option (Int ⊕ (Bool ⊕ Unit)) :=
 bif decide (i<(l.length:Int)) then (
  gd (0≤i∧i<l.length) <|
  gd ((Int.toNat i)<l.length) <|
  bif decide ((l.getD (Int.toNat i) (ET.dft .str))=s) then (
   some (.inr (.inl true)))
  else (
   gd (qAc (i+(1:Int))) <|
   some (.inl (i+(1:Int)))))
 else (
  some (.inr (.inr ())))
def zco_p0 (s:BA) (i:Int) (l:List BA):Option (Bool ⊕ Unit) :=
 qAt (fun x:Int=>qD8 s x l) i
def zco_s (l:(List BA)) (s:BA):Option Bool :=
 (zco_p0 s (0:Int) l).bind fun o1=>(Sum.elim (fun (o1_0:Bool) =>
  some o1_0) (fun (o1_1:Unit) =>
  some false)) o1
def zco_G:Nat→Option CQ:=tblQ []
def zco_d0:=(dQS (qAa (dSO 0 (dO 0)) (qAa (dSO 1 dS) (qAa (dSO 5 dZ) dNil))) (qAa (qBa .str) dNil))
def zco_l0:SubQ:=mkL zco_d0 (fun x=>zco_p0 x.1.2.1 x.1.2.2.1 x.2.1) fun x r R kn kx kr=>(Sum.elim (fun (r_0:Bool)=>kr ⟨[sL 4 (.vB r_0)],[],[.view .str x.2.1]⟩) (fun (r_1:Unit)=>kx 0 ⟨[],[],[.view .str x.2.1]⟩)) r
def zco_L:Nat→SubQ:=tblL [(0,zco_l0)]
theorem zco_sub0:qA0 zco_L zco_G 1 6 18 0 zco_b0:=qAh (show zco_L 0=zco_l0 from by kernel_rfl) fun x R kn kx kr=>qAg (step:=fun y=>qD8 x.1.2.1 y x.2.1) (enc:=fun (y:Int)=>zco_d0.e ((x.1.1,x.1.2.1,y,x.1.2.2.2),x.2)) (fun y=>by kernel_rfl) (fun y ki=>by simp only [qD8,-eq_self,sZ]; kernel_rfl) x.1.2.2.1
def zco_c:CS:=mkC (qAa (dVC (dCO (dO 0))) (qAa (dVC (dCO dS)) dNil)) (qAa (qBa .str) dNil) (fun x y=>zco_s y.1 x.2.1) (fun x y r=>.c (.o (.vB r))) fun x y r=>[.view .str y.1]
theorem zco_val:qAf Tryz.prog 35 zco_c:=vl1 zco_q [.tmp 4] 18 6 1 (show qA3 zco_L zco_G 1 6 18 [(0,zco_b0)] from ⟨zco_sub0,tV⟩) (fun f C h=>by cases h) fun x y=>by
 simp only [zco_s,-eq_self,sZ];kernel_rfl
def zco_w:CQ:=qBs [(0,none,some (.str,9))] (qCc [false] zco_c)
theorem zco_ok:qAe Tryz.prog 35 zco_w:=qB3 zco_val
def zcu_da:=(qAa (dVC (dCO (dO 0))) (qAa (dVC (dCO dZ)) (qAa (dVC (dCO dB)) (qAa (dVC (dCO dZ)) dNil))))
def zcu_db:=(qAa (qBa .node) dNil)
def zcu_cs (self:(List Eng.Node)→Int→Bool→Int→Option Int):CS:=mkC zcu_da zcu_db (fun x y=>self y.1 x.2.1 x.2.2.1 x.2.2.2.1) (fun x y r=>.c (.o (.vI r))) fun x y r=>[.view .node y.1]
def zcu_ws (self:(List Eng.Node)→Int→Bool→Int→Option Int):CQ:=qBs [(0,none,some (.node,47))] (qCc [false] (zcu_cs self))
def zcu_b0:IQ:=(.loop [0,3,9,12,13,14] (.seq (.seq (rg 58 [oM 55 t14,oP 56 (.faddr 5 t9),oP 57 (.load none t56),oP 58 (.bi .lss t55 t57)]) (.cond t58 .skip (.cn [12] (.exit 0)))) (.seq (.block 1 (.seq (rg 15 [oM 61 t12,oM 15 t61]) (.seq (rg 12 [oM 62 t0,oM 63 t15,oP 64 (.faddr 0 t9),oP 65 (.load none t64),oP 66 (.bi .eql t65 (vI 7)),oM 67 t3,oP 68 (.bi .add t67 (vI 1)),oP 69 (.call 13 [t62,t63,t66,t68]),oM 12 t69]) (.seq (.seq (rg 85 [oM 70 t12,oP 71 (.bi .lss t70 (vI 0)),oM 72 t71,oE 73 (.faddr 0 t9) 72,oE 74 (.load none t73) 72,oE 75 (.bi .eql t74 (vI 7)) 72,oE 76 (.mv t75) 72,oF 77 (.mv t13) 76,oF 78 (.mv t0) 76,oF 79 (.mv t15) 76,oF 80 (.iaddr 6 t78 t79) 76,oF 81 (.faddr 1 t80) 76,oF 82 (.load none t81) 76,oF 83 (.call 35 [t77,t82]) 76,oE 84 (.pick t76 t83 vF) 72,oP 85 (.pick t72 vT t84)]) (.cond t85 (.seq (rg 8 [oP 8 (.mv (.v (.int .i64 (-1))))]) (.cn [8] .ret)) .skip)) (rg 13 [oM 86 t13,oM 87 t0,oM 88 t15,oP 89 (.iaddr 6 t87 t88),oP 90 (.faddr 1 t89),oP 91 (.load none t90),oP 92 (.bslice 9 1 1 [.string ⟨#[]⟩] [(0,t91)]),oP 93 (.append 9 1 16 [.string ⟨#[]⟩] t86 t92),oM 13 t93]))))) (rg 14 [oM 59 t14,oP 60 (.bi .add t59 (vI 1)),oM 14 t60]))))
def zcu_q:IQ:=(.seq (rg 8 [oP 8 (.mv (vI 0))]) (.seq (.seq (rg 19 [oM 16 t1,oM 17 t0,oP 18 (.len t17),oP 19 (.bi .geq t16 t18)]) (.cond t19 (.seq (rg 8 [oP 8 (.mv (.v (.int .i64 (-1))))]) (.cn [8] .ret)) .skip)) (.seq (rg 0 [oM 20 t0,oM 21 t1,oP 22 (.iaddr 6 t20 t21),oP 23 (.load (some 6) t22),oP 9 (.alloc 47 [.int .i64 0,.string ⟨#[]⟩,.string ⟨#[]⟩,.bool false,.int .i64 0,.int .i64 0]),oN (.store 6 t9 t23)]) (.seq (rg 10 [oP 24 (.load (some 6) t9),oP 25 (.call 33 [t24]),oM 10 t25]) (.seq (rg 11 [oP 26 (.faddr 1 t9),oP 27 (.load none t26),oP 28 (.call 34 [t27]),oM 11 t28]) (.seq (.seq (rg 52 [oM 29 t10,oP 30 (.un .not t29),oM 31 t30,oE 32 (.mv t11) 31,oE 33 (.un .not t32) 31,oP 34 (.pick t31 vT t33),oM 35 t34,oE 36 (.mv t2) 35,oE 37 (.un .not t36) 35,oE 38 (.mv t37) 35,oF 39 (.faddr 1 t9) 38,oF 40 (.load none t39) 38,oF 41 (.bi .neq t40 (.v (.string ⟨#[]⟩))) 38,oE 42 (.pick t38 t41 vF) 35,oP 43 (.pick t35 vT t42),oM 44 t43,oE 45 (.faddr 0 t9) 44,oE 46 (.load none t45) 44,oE 47 (.bi .geq t46 (vI 6)) 44,oE 48 (.mv t47) 44,oF 49 (.mv t3) 48,oF 50 (.bi .eql t49 (vI 32)) 48,oE 51 (.pick t48 t50 vF) 44,oP 52 (.pick t44 vT t51)]) (.cond t52 (.seq (rg 8 [oP 8 (.mv (.v (.int .i64 (-1))))]) (.cn [8] .ret)) .skip)) (.seq (rg 12 [oM 53 t1,oP 54 (.bi .add t53 (vI 1)),oM 12 t54]) (.seq (rg 13 [oP 13 (.mv (.v (.slice none 0 0)))]) (.seq (.seq (rg 14 [oP 14 (.mv (vI 0))]) (.block 0 (.canon [(13,none,.str,9)] [0,3,9,12,13,14] (.sub 0 zcu_b0)))) (.seq (rg 8 [oM 94 t12,oM 8 t94]) (.cn [8] .ret)))))))))))
theorem zcu_chk:chk Tryz.prog 13 []=some (zcu_q.erase,[.tmp 8],95):=by kernel_rfl
def qB6 (self:(List Eng.Node)→Int→Bool→Int→Option Int) (open_ next i:Int) (v:List Eng.Node) (qHv qHz:Int) (names:List BA):Option ((Int × Int × (List BA)) ⊕ (Int ⊕ Int)) :=
 bif decide (i<qHz) then (
  gd (qAc (open_+(1:Int))) <|
  (self v next (decide (qHv=(7:Int))) (open_+(1:Int))).bind fun r19 =>
  gd ((decide (qHv=(7:Int)))=true→(decide (r19<(0:Int)))=false→0≤next∧next<v.length) <|
  gd ((decide (qHv=(7:Int)))=true→(decide (r19<(0:Int)))=false→(Int.toNat next)<v.length) <|
  gd ((decide (qHv=(7:Int)))=true→(decide (r19<(0:Int)))=false→(Int.toNat next)<v.length) <|
  bif decide (r19<(0:Int)) then (
   some (.inr (.inl (-1:Int))))
  else (
   bif decide (qHv=(7:Int)) then (
    (zco_s names ((v.getD (Int.toNat next) (ET.dft .node)).key)).bind fun r20 =>
    bif r20 then (
     some (.inr (.inl (-1:Int))))
    else (
     gd (0≤next∧next<v.length) <|
     gd ((Int.toNat next)<v.length) <|
     gd ((Int.toNat next)<v.length) <|
     gd (names.length+([(v.getD (Int.toNat next) (ET.dft .node)).key]:List BA).length≤9223372036854775807∧(names.length+([(v.getD (Int.toNat next) (ET.dft .node)).key]:List BA).length)*16≤140737488355328) <|
     gd (qAc (i+(1:Int))) <|
     some (.inl (r19,(i+(1:Int)),(names++[(v.getD (Int.toNat next) (ET.dft .node)).key])))))
   else (
    gd (0≤next∧next<v.length) <|
    gd ((Int.toNat next)<v.length) <|
    gd ((Int.toNat next)<v.length) <|
    gd (names.length+([(v.getD (Int.toNat next) (ET.dft .node)).key]:List BA).length≤9223372036854775807∧(names.length+([(v.getD (Int.toNat next) (ET.dft .node)).key]:List BA).length)*16≤140737488355328) <|
    gd (qAc (i+(1:Int))) <|
    some (.inl (r19,(i+(1:Int)),(names++[(v.getD (Int.toNat next) (ET.dft .node)).key]))))))
 else (
  some (.inr (.inr next)))
def zcu_p0 (self:(List Eng.Node)→Int→Bool→Int→Option Int) (open_ next i:Int) (v:List Eng.Node) (qHv qHz:Int) (names:List BA):Option (Int ⊕ Int) :=
 qAt (fun x:(Int × Int × (List BA))=>qB6 self open_ x.1 x.2.1 v qHv qHz x.2.2) (next,i,names)
def zcu_t (self:(List Eng.Node)→Int→Bool→Int→Option Int) (v:(List Eng.Node)) (at_:Int) (object:Bool) (open_:Int):Option Int :=
 bif decide ((v.length:Int)≤at_) then (
  some (-1:Int))
 else (
  gd (0≤at_∧at_<v.length) <|
  gd ((Int.toNat at_)<v.length) <|
  (zcs_s (v.getD (Int.toNat at_) (ET.dft .node))).bind fun r17 =>
  (zcv_s ((v.getD (Int.toNat at_) (ET.dft .node)).key)).bind fun r18 =>
  bif ((((!r17) || (!r18)) || ((!object) && (!decide (((v.getD (Int.toNat at_) (ET.dft .node)).key)=(⟨#[]⟩:BA))))) || ((decide ((6:Int)≤((v.getD (Int.toNat at_) (ET.dft .node)).kind))) && (decide (open_=(32:Int))))) then (
   some (-1:Int))
  else (
   gd (qAc (at_+(1:Int))) <|
   (zcu_p0 self open_ (at_+(1:Int)) (0:Int) v ((v.getD (Int.toNat at_) (ET.dft .node)).kind) ((v.getD (Int.toNat at_) (ET.dft .node)).kids) []).bind fun o21=>(Sum.elim (fun (o21_0:Int) =>
    some o21_0) (fun (o21_1:Int) =>
    some o21_1)) o21))
def zcu_G (self:(List Eng.Node)→Int→Bool→Int→Option Int):Nat→Option CQ:=tblQ [(33,zcs_w),(34,zcv_w),(13,zcu_ws self),(35,zco_w)]
theorem zcu_Gok (self:(List Eng.Node)→Int→Bool→Int→Option Int) (hself:qAe Tryz.prog 13 (zcu_ws self)):∀f C,(zcu_G self) f=some C→qAe Tryz.prog f C:=qAq ⟨zcs_ok,zcv_ok,hself,zco_ok,tV⟩
def zcu_d0:=(dQS (qAa (dSO 0 (dO 0)) (qAa (dSO 3 dZ) (qAa (dSO 9 (dH 1 0)) (qAa (dSO 12 dZ) (qAa (dSO 13 (dO 2)) (qAa (dSO 14 dZ) dNil)))))) (qAa (qBa .node) (qAa (qBi 47 (qAa dZ (qAa dS (qAa dS (qAa dB (qAa dZ (qAa dZ dNil))))))) (qAa (dRow .str 9) dNil))))
def zcu_l0 (self:(List Eng.Node)→Int→Bool→Int→Option Int):SubQ:=mkL zcu_d0 (fun x=>zcu_p0 self x.1.2.1 x.1.2.2.2.1 x.1.2.2.2.2.2.1 x.2.1 x.2.2.1.1 x.2.2.1.2.2.2.2.2.1 x.2.2.2.1) fun x r R kn kx kr=>(Sum.elim (fun (r_0:Int)=>kr ⟨[sL 8 (.vI r_0)],[],[.view .node x.2.1]⟩) (fun (r_1:Int)=>kx 0 ⟨[sL 12 (.vI r_1)],[],[.view .node x.2.1]⟩)) r
def zcu_L (self:(List Eng.Node)→Int→Bool→Int→Option Int):Nat→SubQ:=tblL [(0,zcu_l0 self)]
theorem zcu_sub0 (self:(List Eng.Node)→Int→Bool→Int→Option Int):qA0 (zcu_L self) (zcu_G self) 1 16 95 0 zcu_b0:=qAh (show (zcu_L self) 0=(zcu_l0 self) from by kernel_rfl) fun x R kn kx kr=>qAg (step:=fun y=>qB6 self x.1.2.1 y.1 y.2.1 x.2.1 x.2.2.1.1 x.2.2.1.2.2.2.2.2.1 y.2.2) (enc:=fun (y:Int × Int × (List BA))=>zcu_d0.e ((x.1.1,x.1.2.1,x.1.2.2.1,y.1,x.1.2.2.2.2.1,y.2.1,x.1.2.2.2.2.2.2),(x.2.1,x.2.2.1,y.2.2,x.2.2.2.2))) (fun y=>by kernel_rfl) (fun y ki=>by simp only [qB6,-eq_self,sZ]; kernel_rfl) (x.1.2.2.2.1,x.1.2.2.2.2.2.1,x.2.2.2.1)
theorem zcu_subs (self:(List Eng.Node)→Int→Bool→Int→Option Int):qDr (zcu_L self) (zcu_G self) 1 16 95 zcu_q:=qDz (show qA3 (zcu_L self) (zcu_G self) 1 16 95 [(0,zcu_b0)] from ⟨(zcu_sub0 self),tV⟩)
theorem zcu_val_t (self:(List Eng.Node)→Int→Bool→Int→Option Int) (hself:qAe Tryz.prog 13 (zcu_ws self)):qAf Tryz.prog 13 (zcu_cs (zcu_t self)):=val_okC zcu_chk 16 (zcu_Gok self hself) 1 (fun x=>Nat.le_of_ble_eq_true rfl) (fun y=>rfl) (zcu_subs self) fun x y=>by
 simp only [zcu_t,-eq_self,sZ];kernel_rfl
def zcu_n:Nat→(List Eng.Node)→Int→Bool→Int→Option Int
 | 0=>fun _ _ _ _=>none
 | n+1=>zcu_t (zcu_n n)
def zcu_s (v:(List Eng.Node)) (at_:Int) (object:Bool) (open_:Int):Option Int:=evt fun n=>zcu_n n v at_ object open_
theorem zcu_valn:∀n,qAf Tryz.prog 13 (zcu_cs (zcu_n n))
 | 0=>qAf.zero fun args hp R k=>by
  show ((Dec.d zcu_da args).bind fun x=>(Dec.d zcu_db hp).bind fun y=>none)=none;cases Dec.d zcu_da args with
  | none=>rfl
  | some x=>cases Dec.d zcu_db hp <;> rfl
 | n+1=>zcu_val_t (zcu_n n) (qB3 (zcu_valn n))
theorem zcu_val:qAf Tryz.prog 13 (zcu_cs zcu_s):=qAf.evt zcu_valn (fun args hp R k=>by
  show ((Dec.d zcu_da args).bind fun x=>(Dec.d zcu_db hp).bind fun y=>_)=(((Dec.d zcu_da args).bind fun x=>(Dec.d zcu_db hp).bind fun y=>_):Option (SV × List SB)).bind _;cases Dec.d zcu_da args with
  | none=>rfl
  | some x =>
   cases Dec.d zcu_db hp with
   | none=>rfl
   | some y=>simp only [obS,Option.bind_assoc]) fun args hp v hp' h=>by
  obtain ⟨x,h1,h2⟩:=Option.bind_eq_some_iff.1 h;obtain ⟨y,h3,h4⟩:=Option.bind_eq_some_iff.1 h2;obtain ⟨r,h5,h6⟩:=Option.bind_eq_some_iff.1 h4;obtain ⟨n,h7⟩:=evt_some h5;refine ⟨n,?_⟩;show ((Dec.d zcu_da args).bind fun x=>(Dec.d zcu_db hp).bind fun y=>_)=_;rw [h1];simp only [obS];rw [h3];simp only [obS];exact (congrArg (fun z=>Option.bind z _) h7).trans h6
def zcu_w:CQ:=zcu_ws zcu_s
theorem zcu_ok:qAe Tryz.prog 13 zcu_w:=qB3 zcu_val
def zcn_q:IQ:=(.seq (rg 2 [oP 2 (.mv vF)]) (.seq (rg 2 [oM 3 t0,oP 4 (.len t3),oP 5 (.bi .gtr t4 (vI 0)),oM 6 t5,oF 7 (.mv t0) 6,oF 8 (.call 13 [t7,(vI 0),vF,(vI 0)]) 6,oF 9 (.mv t0) 6,oF 10 (.len t9) 6,oF 11 (.bi .eql t8 t10) 6,oP 12 (.pick t6 t11 vF),oM 2 t12]) (.cn [2] .ret)))
def zcn_s (v:(List Eng.Node)):Option Bool :=
 bif decide ((0:Int)<(v.length:Int)) then (
  (zcu_s v (0:Int) false (0:Int)).bind fun r1 =>
  some (decide (r1=(v.length:Int))))
 else (
  some false)
def zcn_c:CS:=mkC (qAa (dVC (dCO (dO 0))) dNil) (qAa (qBa .node) dNil) (fun x y=>zcn_s y.1) (fun x y r=>.c (.o (.vB r))) fun x y r=>[.view .node y.1]
theorem zcn_val:qAf Tryz.prog 8 zcn_c:=vl0 zcn_q [.tmp 2] 13 3 1 [(13,zcu_w)] ⟨zcu_ok,tV⟩ fun x y=>by
 simp only [zcn_s,-eq_self,sZ];kernel_rfl
def zcn_w:CQ:=qBs [(0,none,some (.node,47))] (qCc [false] zcn_c)
theorem zcn_ok:qAe Tryz.prog 8 zcn_w:=qB3 zcn_val
def zay_b0:IQ:=(.loop [0,1,5] (.seq (.seq (rg 21 [oM 14 t5,oP 15 (.bi .gtr t14 (vI 0)),oM 16 t15,oF 17 (.mv t1) 16,oF 18 (.mv t0) 16,oF 19 (.len t18) 16,oF 20 (.bi .lss t17 t19) 16,oP 21 (.pick t16 t20 vF)]) (.cond t21 .skip (.cn [1] (.exit 0)))) (.seq (.block 1 (rg 5 [oM 24 t5,oM 25 t0,oM 26 t1,oP 27 (.iaddr 6 t25 t26),oP 28 (.faddr 5 t27),oP 29 (.load none t28),oP 30 (.bin true .sub t29 (vI 1)),oP 31 (.bin true .add t24 t30),oM 5 t31])) (rg 1 [oM 22 t1,oP 23 (.bi .add t22 (vI 1)),oM 1 t23]))))
def zay_q:IQ:=(.seq (rg 4 [oP 4 (.mv (vI 0))]) (.seq (.seq (rg 13 [oM 6 t1,oP 7 (.bi .lss t6 (vI 0)),oM 8 t7,oE 9 (.mv t1) 8,oE 10 (.mv t0) 8,oE 11 (.len t10) 8,oE 12 (.bi .geq t9 t11) 8,oP 13 (.pick t8 vT t12)]) (.cond t13 (.seq (rg 4 [oP 4 (.mv (.v (.int .i64 (-1))))]) (.cn [4] .ret)) .skip)) (.seq (.seq (rg 5 [oP 5 (.mv (vI 1))]) (.block 0 (.cn [0,1,5] (.sub 0 zay_b0)))) (.seq (rg 4 [oM 32 t1,oM 4 t32]) (.cn [4] .ret)))))
def qC6 (at_ left:Int) (v:List Eng.Node):Option ((Int × Int) ⊕ Int) :=
 bif ((decide ((0:Int)<left)) && (decide (at_<(v.length:Int)))) then (
  gd (0≤at_∧at_<v.length) <|
  gd ((Int.toNat at_)<v.length) <|
  gd ((Int.toNat at_)<v.length) <|
  gd (qAc (at_+(1:Int))) <|
  some (.inl ((at_+(1:Int)),w64 (left+(w64 (((v.getD (Int.toNat at_) (ET.dft .node)).kids) - (1:Int)))))))
 else (
  some (.inr at_))
def zay_p0 (at_ left:Int) (v:List Eng.Node):Option Int :=
 qAt (fun x:(Int × Int)=>qC6 x.1 x.2 v) (at_,left)
def zay_s (v:(List Eng.Node)) (at_:Int):Option Int :=
 bif ((decide (at_<(0:Int))) || (decide ((v.length:Int)≤at_))) then (
  some (-1:Int))
 else (
  (zay_p0 at_ (1:Int) v).bind fun o1 =>
  some o1)
def zay_G:Nat→Option CQ:=tblQ []
def zay_d0:=(dQS (qAa (dSO 0 (dO 0)) (qAa (dSO 1 dZ) (qAa (dSO 5 dZ) dNil))) (qAa (qBa .node) dNil))
def zay_l0:SubQ:=mkL zay_d0 (fun x=>zay_p0 x.1.2.1 x.1.2.2.1 x.2.1) fun x r R kn kx kr=>kx 0 ⟨[sL 1 (.vI r)],[],[.view .node x.2.1]⟩
def zay_L:Nat→SubQ:=tblL [(0,zay_l0)]
theorem zay_sub0:qA0 zay_L zay_G 1 6 33 0 zay_b0:=qAh (show zay_L 0=zay_l0 from by kernel_rfl) fun x R kn kx kr=>qAg (step:=fun y=>qC6 y.1 y.2 x.2.1) (enc:=fun (y:Int × Int)=>zay_d0.e ((x.1.1,y.1,y.2,x.1.2.2.2),x.2)) (fun y=>by kernel_rfl) (fun y ki=>by simp only [qC6,-eq_self,sZ]; kernel_rfl) (x.1.2.1,x.1.2.2.1)
def zay_c:CS:=mkC (qAa (dVC (dCO (dO 0))) (qAa (dVC (dCO dZ)) dNil)) (qAa (qBa .node) dNil) (fun x y=>zay_s y.1 x.2.1) (fun x y r=>.c (.o (.vI r))) fun x y r=>[.view .node y.1]
theorem zay_val:qAf Tryz.prog 41 zay_c:=vl1 zay_q [.tmp 4] 33 6 1 (raws:=[30,31]) (show qA3 zay_L zay_G 1 6 33 [(0,zay_b0)] from ⟨zay_sub0,tV⟩) (fun f C h=>by cases h) fun x y=>by
 simp only [zay_s,-eq_self,sZ];kernel_rfl
def zay_w:CQ:=qBs [(0,none,some (.node,47))] (qCc [false] zay_c)
theorem zay_ok:qAe Tryz.prog 41 zay_w:=qB3 zay_val
def zaz_b0:IQ:=(.loop [0,1,5,6,7] (.seq (.seq (rg 34 [oM 18 t7,oM 19 t0,oM 20 t1,oP 21 (.iaddr 6 t19 t20),oP 22 (.faddr 5 t21),oP 23 (.load none t22),oP 24 (.bi .lss t18 t23),oM 25 t24,oF 26 (.mv t6) 25,oF 27 (.bi .geq t26 (vI 0)) 25,oP 28 (.pick t25 t27 vF),oM 29 t28,oF 30 (.mv t6) 29,oF 31 (.mv t0) 29,oF 32 (.len t31) 29,oF 33 (.bi .lss t30 t32) 29,oP 34 (.pick t29 t33 vF)]) (.cond t34 .skip (.cn [5] (.exit 0)))) (.seq (.block 1 (.seq (rg 5 [oM 37 t5,oM 38 t6,oP 39 (.bslice 3 1 1 [.int .i64 0] [(0,t38)]),oP 40 (.append 3 1 8 [.int .i64 0] t37 t39),oM 5 t40]) (rg 6 [oM 41 t0,oM 42 t6,oP 43 (.call 41 [t41,t42]),oM 6 t43]))) (rg 7 [oM 35 t7,oP 36 (.bi .add t35 (vI 1)),oM 7 t36]))))
def zaz_q:IQ:=(.seq (rg 4 [oP 4 (.mv (.v (.slice none 0 0)))]) (.seq (.seq (rg 15 [oM 8 t1,oP 9 (.bi .lss t8 (vI 0)),oM 10 t9,oE 11 (.mv t1) 10,oE 12 (.mv t0) 10,oE 13 (.len t12) 10,oE 14 (.bi .geq t11 t13) 10,oP 15 (.pick t10 vT t14)]) (.cond t15 (.seq (rg 4 [oP 4 (.mv (.v (.slice none 0 0)))]) (.canon [(4,none,.i64,3)] [4] .ret)) .skip)) (.seq (rg 5 [oP 5 (.mv (.v (.slice none 0 0)))]) (.seq (rg 6 [oM 16 t1,oP 17 (.bi .add t16 (vI 1)),oM 6 t17]) (.seq (.seq (rg 7 [oP 7 (.mv (vI 0))]) (.block 0 (.canon [(5,none,.i64,3)] [0,1,5,6,7] (.sub 0 zaz_b0)))) (.seq (rg 4 [oM 44 t5,oM 4 t44]) (.canon [(4,none,.i64,3)] [4] .ret)))))))
def zaz_p0_step (at_ next i:Int) (v:List Eng.Node) (out:List Int):Option ((Int × Int × (List Int)) ⊕ ((List Int))) :=
 gd (0≤at_∧at_<v.length) <|
 gd ((Int.toNat at_)<v.length) <|
 gd ((Int.toNat at_)<v.length) <|
 bif (((decide (i<((v.getD (Int.toNat at_) (ET.dft .node)).kids))) && (decide ((0:Int)≤next))) && (decide (next<(v.length:Int)))) then (
  gd (out.length+([next]:List Int).length≤9223372036854775807∧(out.length+([next]:List Int).length)*8≤140737488355328) <|
  (zay_s v next).bind fun r5 =>
  gd (qAc (i+(1:Int))) <|
  some (.inl (r5,(i+(1:Int)),(out++[next]))))
 else (
  some (.inr out))
def zaz_p0 (at_ next i:Int) (v:List Eng.Node) (out:List Int):Option ((List Int)) :=
 qAt (fun x:(Int × Int × (List Int))=>zaz_p0_step at_ x.1 x.2.1 v x.2.2) (next,i,out)
def zaz_s (v:(List Eng.Node)) (at_:Int):Option ((List Int)) :=
 bif ((decide (at_<(0:Int))) || (decide ((v.length:Int)≤at_))) then (
  some [])
 else (
  gd (qAc (at_+(1:Int))) <|
  (zaz_p0 at_ (at_+(1:Int)) (0:Int) v []).bind fun o6 =>
  some o6)
def zaz_G:Nat→Option CQ:=tblQ [(41,zay_w)]
def zaz_d0:=(dQS (qAa (dSO 0 (dO 0)) (qAa (dSO 1 dZ) (qAa (dSO 5 (dO 1)) (qAa (dSO 6 dZ) (qAa (dSO 7 dZ) dNil))))) zDJR1)
def zaz_l0:SubQ:=mkL zaz_d0 (fun x=>zaz_p0 x.1.2.1 x.1.2.2.2.1 x.1.2.2.2.2.1 x.2.1 x.2.2.1) fun x r R kn kx kr=>kx 0 ⟨[sL 5 (.own 1)],[],[.view .node x.2.1,.row .i64 3 r]⟩
def zaz_L:Nat→SubQ:=tblL [(0,zaz_l0)]
theorem zaz_sub0:qA0 zaz_L zaz_G 1 8 45 0 zaz_b0:=qAh (show zaz_L 0=zaz_l0 from by kernel_rfl) fun x R kn kx kr=>qAg (step:=fun y=>zaz_p0_step x.1.2.1 y.1 y.2.1 x.2.1 y.2.2) (enc:=fun (y:Int × Int × (List Int))=>zaz_d0.e ((x.1.1,x.1.2.1,x.1.2.2.1,y.1,y.2.1,x.1.2.2.2.2.2),(x.2.1,y.2.2,x.2.2.2))) (fun y=>by kernel_rfl) (fun y ki=>by simp only [zaz_p0_step,-eq_self,sZ]; kernel_rfl) (x.1.2.2.2.1,x.1.2.2.2.2.1,x.2.2.1)
def zaz_c:CS:=mkC (qAa (dVC (dCO (dO 0))) (qAa (dVC (dCO dZ)) dNil)) (qAa (qBa .node) dNil) (fun x y=>zaz_s y.1 x.2.1) (fun x y r=>.c (.o (.own 1))) fun x y r=>[.view .node y.1,.row .i64 3 r]
theorem zaz_val:qAf Tryz.prog 27 zaz_c:=vl1 zaz_q [.tmp 4] 45 8 1 (show qA3 zaz_L zaz_G 1 8 45 [(0,zaz_b0)] from ⟨zaz_sub0,tV⟩) (qAq ⟨zay_ok,tV⟩) fun x y=>by
 simp only [zaz_s,-eq_self,sZ];kernel_rfl
def zaz_w:CQ:=qBs [(0,none,some (.node,47))] (qB4 [false] zaz_c)
theorem zaz_ok:qAe Tryz.prog 27 zaz_w:=qAv zaz_val
def zba_b0:IQ:=(.loop [0,1,2,7,8] (.seq (.seq (rg 43 [oM 27 t8,oM 28 t0,oM 29 t1,oP 30 (.iaddr 6 t28 t29),oP 31 (.faddr 5 t30),oP 32 (.load none t31),oP 33 (.bi .lss t27 t32),oM 34 t33,oF 35 (.mv t7) 34,oF 36 (.bi .geq t35 (vI 0)) 34,oP 37 (.pick t34 t36 vF),oM 38 t37,oF 39 (.mv t7) 38,oF 40 (.mv t0) 38,oF 41 (.len t40) 38,oF 42 (.bi .lss t39 t41) 38,oP 43 (.pick t38 t42 vF)]) (.cond t43 .skip (.cn [] (.exit 0)))) (.seq (.block 1 (.seq (.seq (rg 52 [oM 46 t0,oM 47 t7,oP 48 (.iaddr 6 t46 t47),oP 49 (.faddr 1 t48),oP 50 (.load none t49),oM 51 t2,oP 52 (.bi .eql t50 t51)]) (.cond t52 (.seq (rg 6 [oM 53 t7,oM 6 t53]) (.cn [6] .ret)) .skip)) (rg 7 [oM 54 t0,oM 55 t7,oP 56 (.call 41 [t54,t55]),oM 7 t56]))) (rg 8 [oM 44 t8,oP 45 (.bi .add t44 (vI 1)),oM 8 t45]))))
def zba_q:IQ:=(.seq (rg 6 [oP 6 (.mv (vI 0))]) (.seq (.seq (rg 24 [oM 9 t1,oP 10 (.bi .lss t9 (vI 0)),oM 11 t10,oE 12 (.mv t1) 11,oE 13 (.mv t0) 11,oE 14 (.len t13) 11,oE 15 (.bi .geq t12 t14) 11,oP 16 (.pick t11 vT t15),oM 17 t16,oE 18 (.mv t0) 17,oE 19 (.mv t1) 17,oE 20 (.iaddr 6 t18 t19) 17,oE 21 (.faddr 0 t20) 17,oE 22 (.load none t21) 17,oE 23 (.bi .neq t22 (vI 7)) 17,oP 24 (.pick t17 vT t23)]) (.cond t24 (.seq (rg 6 [oP 6 (.mv (.v (.int .i64 (-1))))]) (.cn [6] .ret)) .skip)) (.seq (rg 7 [oM 25 t1,oP 26 (.bi .add t25 (vI 1)),oM 7 t26]) (.seq (.seq (rg 8 [oP 8 (.mv (vI 0))]) (.block 0 (.cn [0,1,2,7,8] (.sub 0 zba_b0)))) (.seq (rg 6 [oP 6 (.mv (.v (.int .i64 (-1))))]) (.cn [6] .ret))))))
def qD0 (at_:Int) (key:BA) (next i:Int) (v:List Eng.Node):Option ((Int × Int) ⊕ (Int ⊕ Unit)) :=
 gd (0≤at_∧at_<v.length) <|
 gd ((Int.toNat at_)<v.length) <|
 gd ((Int.toNat at_)<v.length) <|
 bif (((decide (i<((v.getD (Int.toNat at_) (ET.dft .node)).kids))) && (decide ((0:Int)≤next))) && (decide (next<(v.length:Int)))) then (
  gd (0≤next∧next<v.length) <|
  gd ((Int.toNat next)<v.length) <|
  gd ((Int.toNat next)<v.length) <|
  bif decide (((v.getD (Int.toNat next) (ET.dft .node)).key)=key) then (
   some (.inr (.inl next)))
  else (
   (zay_s v next).bind fun r3 =>
   gd (qAc (i+(1:Int))) <|
   some (.inl (r3,(i+(1:Int))))))
 else (
  some (.inr (.inr ())))
def zba_p0 (at_:Int) (key:BA) (next i:Int) (v:List Eng.Node):Option (Int ⊕ Unit) :=
 qAt (fun x:(Int × Int)=>qD0 at_ key x.1 x.2 v) (next,i)
def zba_s (v:(List Eng.Node)) (at_:Int) (key:BA):Option Int :=
 gd (((decide (at_<(0:Int))) || (decide ((v.length:Int)≤at_)))=false→0≤at_∧at_<v.length) <|
 gd (((decide (at_<(0:Int))) || (decide ((v.length:Int)≤at_)))=false→(Int.toNat at_)<v.length) <|
 gd (((decide (at_<(0:Int))) || (decide ((v.length:Int)≤at_)))=false→(Int.toNat at_)<v.length) <|
 bif (((decide (at_<(0:Int))) || (decide ((v.length:Int)≤at_))) || (!decide (((v.getD (Int.toNat at_) (ET.dft .node)).kind)=(7:Int)))) then (
  some (-1:Int))
 else (
  gd (qAc (at_+(1:Int))) <|
  (zba_p0 at_ key (at_+(1:Int)) (0:Int) v).bind fun o4=>(Sum.elim (fun (o4_0:Int) =>
   some o4_0) (fun (o4_1:Unit) =>
   some (-1:Int))) o4)
def zba_G:Nat→Option CQ:=tblQ [(41,zay_w)]
def zba_d0:=(dQS (qAa (dSO 0 (dO 0)) (qAa (dSO 1 dZ) (qAa (dSO 2 dS) (qAa (dSO 7 dZ) (qAa (dSO 8 dZ) dNil))))) (qAa (qBa .node) dNil))
def zba_l0:SubQ:=mkL zba_d0 (fun x=>zba_p0 x.1.2.1 x.1.2.2.1 x.1.2.2.2.1 x.1.2.2.2.2.1 x.2.1) fun x r R kn kx kr=>(Sum.elim (fun (r_0:Int)=>kr ⟨[sL 6 (.vI r_0)],[],[.view .node x.2.1]⟩) (fun (r_1:Unit)=>kx 0 ⟨[],[],[.view .node x.2.1]⟩)) r
def zba_L:Nat→SubQ:=tblL [(0,zba_l0)]
theorem zba_sub0:qA0 zba_L zba_G 1 9 57 0 zba_b0:=qAh (show zba_L 0=zba_l0 from by kernel_rfl) fun x R kn kx kr=>qAg (step:=fun y=>qD0 x.1.2.1 x.1.2.2.1 y.1 y.2 x.2.1) (enc:=fun (y:Int × Int)=>zba_d0.e ((x.1.1,x.1.2.1,x.1.2.2.1,y.1,y.2,x.1.2.2.2.2.2),x.2)) (fun y=>by kernel_rfl) (fun y ki=>by simp only [qD0,-eq_self,sZ]; kernel_rfl) (x.1.2.2.2.1,x.1.2.2.2.2.1)
def zba_c:CS:=mkC (qAa (dVC (dCO (dO 0))) (qAa (dVC (dCO dZ)) (qAa (dVC (dCO dS)) dNil))) (qAa (qBa .node) dNil) (fun x y=>zba_s y.1 x.2.1 x.2.2.1) (fun x y r=>.c (.o (.vI r))) fun x y r=>[.view .node y.1]
theorem zba_val:qAf Tryz.prog 23 zba_c:=vl1 zba_q [.tmp 6] 57 9 1 (show qA3 zba_L zba_G 1 9 57 [(0,zba_b0)] from ⟨zba_sub0,tV⟩) (qAq ⟨zay_ok,tV⟩) fun x y=>by
 simp only [zba_s,-eq_self,sZ];kernel_rfl
def zba_w:CQ:=qBs [(0,none,some (.node,47))] (qCc [false] zba_c)
theorem zba_ok:qAe Tryz.prog 23 zba_w:=qB3 zba_val
end
open Go.RowKit Go.Lib
structure HidF (p:Prop):Prop where
 out:p
end Go.Proofs.YtlmfmmgfiffjiaaGreatDoor
namespace Go.Proofs
open Go.Shelf
shelf_lay Lays.n197 Nm 197 at Tryz as Tryz.laysDecode
end Go.Proofs
namespace Go.Proofs.YtlmfmmgfiffjiaaGreatDoor
open Go.Eng
end Go.Proofs.YtlmfmmgfiffjiaaGreatDoor
namespace Go.Proofs.YtlmfmmgfiffjiaaGreatDoor
open Go.Eng
set_option maxRecDepth 100000
theorem nd_get {v:List Eng.Node} {a:Nat} {n:Eng.Node} (h:v[a]?=some n):v.getD a (ET.dft .node)=n:=by
 rw [List.getD_eq_getElem?_getD,h]; rfl
theorem nd_some {v:List Eng.Node} {a:Nat} (h:a<v.length):∃n,v[a]?=some n∧n∈v∧v.getD a (ET.dft .node)=n :=
 ⟨v[a],List.getElem?_eq_getElem h,List.getElem_mem h,nd_get (List.getElem?_eq_getElem h)⟩
structure OkN (n:Eng.Node):Prop where
 key:n.key.size≤3000000
 text:n.text.size≤3000000
 kids:qAc n.kids
def OkL (v:List Eng.Node):Prop:=v.length≤2000000∧∀n∈v,OkN n
theorem read_text (s:BA):(qA1 s).text.size≤s.size:=by
 unfold qA1 readS;split
 ·exact Nat.zero_le _
 ·split
  ·simp only [ByteArray.size_extract]; omega
  ·split
   ·simp only [ByteArray.size_extract]; omega
   ·split
    ·simp only [ByteArray.size_extract]; omega
    ·simp only [ByteArray.size_extract]; omega
theorem tdiv_low (x:Int) (h1 : -9223372036854775808≤x) (h2:x≤0):x≤10*Int.tdiv x 10∧Int.tdiv x 10≤0:=by
 have h3:Int.tdiv x 10 = -((-x) / 10):=by
  conv=>lhs; rw [show x = -(-x) by omega,Int.neg_tdiv]
  rw [Int.tdiv_eq_ediv_of_nonneg (by omega)]
 rw [h3];omega
theorem whole_loop (t:BA) (hs:t.size≤3000000):∀(j i:Nat) (v:Int),i+j=t.size → -9223372036854775808≤v∧v≤0→∃y,zcj_p0 v (i:Int) t=some y∧∀u,y=.inr u → -9223372036854775808≤u∧u≤0
 | 0,i,v,h,hv=>by
  refine ⟨.inr v,?_,fun u hu=>by cases hu; exact hv⟩;unfold zcj_p0;refine qAj ?_;unfold qD5;dsimp only;rw [deF (by omega),cnF]
 | j+1,i,v,h,hv=>by
  obtain ⟨d,hd⟩:∃d,d=(bAt t i - 48) % 256:=⟨_,rfl⟩;have hd2:0≤d∧d<256:=by omega
  obtain ⟨l1,l2⟩:=tdiv_low (-9223372036854775808+d) (by omega) (by omega);have l3 : -9223372036854775808≤Int.tdiv (-9223372036854775808+d) 10:=by omega
  have step:qD5 v (i:Int) t=if v<Int.tdiv (-9223372036854775808+d) 10 then some (.inr (.inl (0,false))) else some (.inl (10*v - d,((i+1:Nat):Int))):=by
   unfold qD5;rw [←hd,deT (by omega),cnT];refine (qAb (by omega) _).trans ?_;refine (qAb (by unfold qAc; omega) _).trans ?_;refine (qAb (by unfold qAc; omega) _).trans ?_;refine (qAb ⟨by decide,by unfold qAc; omega⟩ _).trans ?_;by_cases hl:v<Int.tdiv (-9223372036854775808+d) 10
   ·rw [deT hl,cnT,if_pos hl]
   ·rw [deF hl,cnF,if_neg hl];refine (qAb (by unfold qAc; omega) _).trans ?_;refine (qAb (by unfold qAc; omega) _).trans ?_;exact qAb (by unfold qAc; omega) _
  by_cases hl:v<Int.tdiv (-9223372036854775808+d) 10
  ·rw [if_pos hl] at step;refine ⟨.inl (0,false),?_,fun u hu=>by cases hu⟩;unfold zcj_p0;exact qAj step
  ·rw [if_neg hl] at step;obtain ⟨y,h1,h2⟩:=whole_loop t hs j (i+1) (10*v - d) (by omega) (by omega);refine ⟨y,?_,h2⟩;unfold zcj_p0 at h1 ⊢;rw [qA9 step];exact h1
theorem whole_total (s:BA) (hs:s.size≤3000000):∃r,zcj_s s=some r:=by
 have hx:=p_Read s (by omega);have hz:=read_text s;obtain ⟨y,hy,hy2⟩:=whole_loop (qA1 s).text (by omega) (qA1 s).text.size 0 0 (by omega) (by omega);unfold zcj_s;rw [hx,obS];cases hc:((!qE3 s) || (!(rnum (qA1 s)).plain)) with
 | true=>exact ⟨_,by rw [cnT]⟩
 | false =>
  rw [cnF];have hy':zcj_p0 0 0 (rnum (qA1 s)).text=some y:=hy;dsimp only;rw [hy',obS];cases y with
  | inl z=>exact ⟨_,rfl⟩
  | inr u =>
   have:=hy2 u rfl;dsimp only [Sum.elim_inr];cases (rnum (qA1 s)).minus with
   | true=>exact ⟨_,rfl⟩
   | false =>
    rw [cnF];by_cases h0:u = -9223372036854775808
    ·rw [deT h0,cnT]; exact ⟨_,rfl⟩
    ·rw [deF h0,cnF];exact ⟨_,qAb (by unfold qAc; omega) _⟩
theorem valid_total (s:BA) (hs:s.size≤3000000):∃r,zci_s s=some r:=by
 unfold zci_s;rw [p_Read s (by omega)];exact ⟨_,rfl⟩
theorem cond_ex {α:Type} {c:Bool} {a b:Option α} {P:α→Prop} (h1:∃x,a=some x∧P x) (h2:∃x,b=some x∧P x):∃x,(bif c then a else b)=some x∧P x:=by
 cases c
 ·exact h2
 ·exact h1
theorem bounds_some (c:Int):∃x,zcp_s c=some x∧x.1≤3:=by
 have k:∀a b d:Int,a≤3→∃x,(some (a,b,d):Option (Int × Int × Int))=some x∧x.1≤3:=fun a b d h=>⟨_,rfl,h⟩
 unfold zcp_s;exact cond_ex (k _ _ _ (by decide)) (cond_ex (k _ _ _ (by decide)) (cond_ex (k _ _ _ (by decide)) (cond_ex (k _ _ _ (by decide)) (cond_ex (k _ _ _ (by decide)) (cond_ex (k _ _ _ (by decide)) (cond_ex (k _ _ _ (by decide)) (k _ _ _ (by decide))))))))
theorem bAt_byte (t:BA) (i:Int) : -1≤bAt t i∧bAt t i≤255:=by
 unfold bAt;split
 ·split
  ·rename_i b _;have:=b.toNat_lt;omega
  ·omega
 ·omega
theorem byteAt_some (t:BA) (at_:Int) (h0:0≤at_):zcq_s t at_=some (if (t.size:Int)≤at_ then -1 else bAt t at_)∧(0≤(if (t.size:Int)≤at_ then -1 else bAt t at_)→at_<t.size):=by
 have:=bAt_byte t at_;unfold zcq_s;by_cases h:(t.size:Int)≤at_
 ·rw [deT h,cnT,if_pos h];exact ⟨rfl,fun h=>by omega⟩
 ·rw [deF h,cnF,if_neg h];refine ⟨(qAb (by omega) _).trans (qAb (by unfold qAc; omega) _),fun _=>by omega⟩
theorem seq_loop (t:BA) (a:Nat) (n:Int) (hn:n≤3) (ha:a≤t.size) (hs:t.size≤3000000):∀(j:Nat) (i:Int) (lo hi:Int),1≤i→n+1 - i≤j→a+i≤t.size→∃y,zct_p0 t (a:Int) n lo hi i=some y∧((∃z,y=.inl z∧z.2.2.1≠0)∨(y=.inr ()∧a+n+1≤max (t.size:Int) (a+i)))
 | 0,i,lo,hi,h1,h2,h3=>by
  refine ⟨.inr (),?_,.inr ⟨rfl,by omega⟩⟩;unfold zct_p0;refine qAj ?_;unfold qDa;dsimp only;rw [deF (by omega),cnF]
 | j+1,i,lo,hi,h1,h2,h3=>by
  by_cases hin:i≤n
  ·obtain ⟨b1,b2⟩:=byteAt_some t (a+i) (by omega);generalize hc:(if (t.size:Int)≤a+i then (-1:Int) else bAt t (a+i))=c at b1 b2
   have step:qDa t (a:Int) n lo hi i=if c<0 then some (.inr (.inl (0,⟨#[]⟩,31,(t.size:Int),[]))) else bif (decide (c<lo) || decide (hi<c)) then some (.inr (.inl (0,⟨#[]⟩,32,(a:Int),[]))) else some (.inl (128,191,i+1)):=by
    unfold qDa;rw [deT hin,cnT];refine (qAb (by unfold qAc; omega) _).trans ?_;rw [b1,obS];by_cases h:c<0
    ·rw [deT h,cnT,if_pos h]; rfl
    ·rw [deF h,cnF,if_neg h];cases (decide (c<lo) || decide (hi<c)) with
     | true=>rfl
     | false=>exact qAb (by unfold qAc; omega) _
   by_cases h:c<0
   ·rw [if_pos h] at step;refine ⟨.inl (0,⟨#[]⟩,31,(t.size:Int),[]),?_,.inl ⟨_,rfl,show (31:Int)≠0 by decide⟩⟩;unfold zct_p0;exact qAj step
   ·rw [if_neg h] at step;cases hb:(decide (c<lo) || decide (hi<c)) with
    | true =>
     rw [hb] at step;refine ⟨.inl (0,⟨#[]⟩,32,(a:Int),[]),?_,.inl ⟨_,rfl,show (32:Int)≠0 by decide⟩⟩;unfold zct_p0;exact qAj step
    | false =>
     rw [hb] at step;have hlt:=b2 (by omega);obtain ⟨y,g1,g2⟩:=seq_loop t a n hn ha hs j (i+1) 128 191 (by omega) (by omega) (by omega);refine ⟨y,?_,?_⟩
     ·unfold zct_p0 at g1 ⊢;rw [qA9 step];exact g1
     ·rcases g2 with g2 | ⟨g2,g3⟩
      ·exact .inl g2
      ·exact .inr ⟨g2,by omega⟩
  ·refine ⟨.inr (),?_,.inr ⟨rfl,by omega⟩⟩;unfold zct_p0;refine qAj ?_;unfold qDa;dsimp only;rw [deF hin,cnF]
theorem seq_some (t:BA) (a:Nat) (ha:a<t.size) (hs:t.size≤3000000):∃g,zct_s t (a:Int)=some g∧(g.code=0→∃b:Nat,g.at_=b∧a<b∧b≤t.size):=by
 obtain ⟨x,h1,h2⟩:=bounds_some (bAt t a);have hb:=bAt_byte t a;unfold zct_s;rw [qAb (by omega),qAb (by unfold qAc; omega),h1,obS];by_cases hn:x.1<0
 ·rw [deT hn,cnT];exact ⟨_,rfl,fun h=>by cases h⟩
 ·rw [deF hn,cnF];obtain ⟨y,g1,g2⟩:=seq_loop t a x.1 h2 (by omega) hs 3 1 x.2.1 x.2.2 (by omega) (by omega) (by omega);rw [g1,obS];rcases g2 with ⟨z,rfl,hz⟩ | ⟨rfl,hz⟩
  ·exact ⟨_,rfl,fun h=>(hz h).elim⟩
  ·have hle:(a:Int)+x.1+1≤t.size:=by omega
   refine ⟨⟨((a:Int)+x.1+1),[],t.extract (Int.toNat (a:Int)) (Int.toNat ((a:Int)+x.1+1)),0,0⟩,?_,fun _=>⟨((a:Int)+x.1+1).toNat,?_,by omega,by omega⟩⟩
   ·exact (qAb (by unfold qAc; omega) _).trans ((qAb (by unfold qAc; omega) _).trans ((qAb (by unfold qAc; omega) _).trans ((qAb (by unfold qAc; omega) _).trans (qAb (by omega) _))))
   ·show (a:Int)+x.1+1=_;omega
theorem utf_loop (s:BA) (hs:s.size≤3000000):∀(j a:Nat),s.size - a≤j→a≤s.size→∃y,zcv_p0 s (a:Int)=some y
 | 0,a,h1,h2=>by
  refine ⟨.inr (),?_⟩;unfold zcv_p0;refine qAj ?_;unfold qDb;rw [deF (by omega),cnF]
 | j+1,a,h1,h2=>by
  by_cases hlt:a<s.size
  ·have hstep:∃y,qDb s (a:Int)=some y∧((∃z,y=.inr z)∨∃b:Nat,y=.inl (b:Int)∧a<b∧b≤s.size):=by
    unfold qDb;rw [deT (by omega),cnT,qAb (by omega)];by_cases hc:bAt s a<128
    ·rw [deT hc,cnT];exact ⟨_,qAb (by unfold qAc; omega) _,.inr ⟨a+1,rfl,by omega,by omega⟩⟩
    ·rw [deF hc,cnF];obtain ⟨g,g1,g2⟩:=seq_some s a hlt hs;rw [g1,obS];by_cases h0:g.code=0
     ·rw [deT h0,Bool.not_true,cnF];obtain ⟨b,e1,e2,e3⟩:=g2 h0;exact ⟨_,rfl,.inr ⟨b,by rw [e1],e2,e3⟩⟩
     ·rw [deF h0,Bool.not_false,cnT];exact ⟨_,rfl,.inl ⟨_,rfl⟩⟩
   obtain ⟨y,h3,h4⟩:=hstep;rcases h4 with ⟨z,rfl⟩ | ⟨b,rfl,h5,h6⟩
   ·refine ⟨z,?_⟩;unfold zcv_p0;exact qAj h3
   ·obtain ⟨y,h7⟩:=utf_loop s hs j b (by omega) h6;refine ⟨y,?_⟩;unfold zcv_p0 at h7 ⊢;rw [qA9 h3];exact h7
  ·refine ⟨.inr (),?_⟩;unfold zcv_p0;refine qAj ?_;unfold qDb;rw [deF (by omega),cnF]
theorem utf_total (s:BA) (hs:s.size≤3000000):∃b,zcv_s s=some b:=by
 obtain ⟨y,hy⟩:=utf_loop s hs s.size 0 (by omega) (by omega);unfold zcv_s;rw [show ((0:Nat):Int)=0 from rfl] at hy;rw [hy,obS];cases y <;> exact ⟨_,rfl⟩
theorem plain_total (n:Eng.Node) (hn:OkN n):∃b,zcs_s n=some b∧(b=true→0≤n.kids∧(0<n.kids→6≤n.kind)):=by
 obtain ⟨w,hw⟩:=whole_total n.text hn.text;obtain ⟨u,hu⟩:=valid_total n.text hn.text;obtain ⟨x,hx⟩:=utf_total n.text hn.text;unfold zcs_s;cases hc:(((decide (n.kind<1) || decide (7<n.kind)) || decide (n.kids<0)) || (decide (0<n.kids) && decide (n.kind<6))) with
 | true=>exact ⟨false,by rw [cnT],fun h=>by cases h⟩
 | false =>
  rw [cnF,hw,obS,hu,obS,hx,obS];have hk:0≤n.kids∧(0<n.kids→6≤n.kind):=by
   simp only [Bool.or_eq_false_iff,Bool.and_eq_false_iff,decide_eq_false_iff_not] at hc;omega
  have go:∀o:Option Bool,(∃b,o=some b)→∃b,o=some b∧(b=true→0≤n.kids∧(0<n.kids→6≤n.kind)):=fun o ⟨b,h⟩=>⟨b,h,fun _=>hk⟩
  refine go _ ?_;cases decide (n.kind=4) with
  | true=>exact ⟨_,rfl⟩
  | false =>
   rw [cnF];cases (n.whole || !decide (n.int=0)) with
   | true=>exact ⟨_,rfl⟩
   | false =>
    rw [cnF];cases decide (n.kind=5) <;> exact ⟨_,rfl⟩
theorem among_loop (s:BA) (l:List BA) (hl:l.length≤2000000):∀(j i:Nat),i+j=l.length→∃y,zco_p0 s (i:Int) l=some y
 | 0,i,h=>by
  refine ⟨.inr (),?_⟩;unfold zco_p0;refine qAj ?_;unfold qD8;rw [deF (by omega),cnF]
 | j+1,i,h=>by
  cases hd:decide (l.getD i (ET.dft .str)=s) with
  | true =>
   refine ⟨.inl true,?_⟩;unfold zco_p0;refine qAj ?_;unfold qD8;rw [deT (by omega),cnT,qAb (by omega),qAb (by omega),Int.toNat_natCast,hd,cnT]
  | false =>
   obtain ⟨y,hy⟩:=among_loop s l hl j (i+1) (by omega);refine ⟨y,?_⟩;unfold zco_p0 at hy ⊢;rw [qA9 (y:=((i+1:Nat):Int)) ?_]
   ·exact hy
   ·unfold qD8;rw [deT (by omega),cnT,qAb (by omega),qAb (by omega),Int.toNat_natCast,hd,cnF];exact qAb (by unfold qAc; omega) _
theorem among_total (l:List BA) (hl:l.length≤2000000) (s:BA):∃b,zco_s l s=some b:=by
 obtain ⟨y,hy⟩:=among_loop s l hl l.length 0 (by omega);unfold zco_s;rw [show ((0:Nat):Int)=0 from rfl] at hy;rw [hy,obS];cases y <;> exact ⟨_,rfl⟩
def Told (v:List Eng.Node) (a:Nat) (r:Int):Prop:=r = -1∨∃e:Nat,r=e∧Tree v a e
theorem Told.lt {v:List Eng.Node} {a:Nat} {r:Int} (h:Told v a r) (h0:¬r<0):∃e:Nat,r=e∧Tree v a e∧a<e∧e≤v.length∧a<v.length:=by
 rcases h with h | ⟨e,h1,h2⟩
 ·omega
 ·have:=Trees.le h2;exact ⟨e,h1,h2,by omega,this.2,by omega⟩
theorem take_loop {v:List Eng.Node} (hv:OkL v) {a:Nat} {open_:Int} (ho:0≤open_∧open_≤32) (kd:Int) {kids:Nat} (hk:(kids:Int)≤9223372036854775807)
  (ans:Nat→Bool→Int) (hans:∀(b:Nat) (obj:Bool),a<b→0<kids→Told v b (ans b obj)) :
  ∀(m next i:Nat) (names:List BA),v.length - next≤m→a<next→next≤v.length→names.length=i→i≤kids→Trees v i (a+1) next →
   ∃y,(∀self:List Eng.Node→Int→Bool→Int→Option Int,(∀(b:Nat) (obj:Bool),a<b→0<kids→self v (b:Int) obj (open_+1)=some (ans b obj))→zcu_p0 self open_ (next:Int) (i:Int) v kd (kids:Int) names=some y)∧((y=.inl (-1))∨∃e:Nat,y=.inr (e:Int)∧Trees v kids (a+1) e):=by
 intro m;induction m with
 | zero =>
  intro next i names h1 h2 h3 h4 h5 h6;have hlen:=hv.1;by_cases hik:i<kids
  ·have r2:=hans next (decide (kd=7)) h2 (by omega);generalize hrr:ans next (decide (kd=7))=r at r2
   have hr:r<0:=by
    by_cases h0:r<0
    ·exact h0
    ·obtain ⟨e,_,_,_,_,h⟩:=r2.lt h0;omega
   refine ⟨.inl (-1),fun self hself=>?_,.inl rfl⟩;have r1:=hself next (decide (kd=7)) h2 (by omega);rw [hrr] at r1;unfold zcu_p0;refine qAj ?_;unfold qB6;dsimp only;rw [deT (by omega),cnT,qAb (by unfold qAc; omega),r1,obS,deT hr];rw [qAb (fun _ h=>by cases h),qAb (fun _ h=>by cases h),qAb (fun _ h=>by cases h),cnT]
  ·have:i=kids:=by omega
   subst this;refine ⟨.inr (next:Int),fun self hself=>?_,.inr ⟨next,rfl,h6⟩⟩;unfold zcu_p0;refine qAj ?_;unfold qB6;dsimp only;rw [deF (by omega),cnF]
 | succ m ih =>
  intro next i names h1 h2 h3 h4 h5 h6;have hlen:=hv.1;by_cases hik:i<kids
  ·have r2:=hans next (decide (kd=7)) h2 (by omega);generalize hrr:ans next (decide (kd=7))=r at r2
   by_cases hr:r<0
   ·refine ⟨.inl (-1),fun self hself=>?_,.inl rfl⟩;have r1:=hself next (decide (kd=7)) h2 (by omega);rw [hrr] at r1;unfold zcu_p0;refine qAj ?_;unfold qB6;dsimp only;rw [deT (by omega),cnT,qAb (by unfold qAc; omega),r1,obS,deT hr];rw [qAb (fun _ h=>by cases h),qAb (fun _ h=>by cases h),qAb (fun _ h=>by cases h),cnT]
   ·obtain ⟨e,rfl,ht,e1,e2,e3⟩:=r2.lt hr;have htt:Trees v (i+1) (a+1) e:=by
     have:=h6.app ht;rwa [Nat.add_comm] at this
    have hil:(i:Int)+1+(a+1)≤e:=by
     have:=htt.le;omega
    obtain ⟨n,_,hmem,hget⟩:=nd_some e3;obtain ⟨y,y1,y2⟩:=ih e (i+1) (names++[n.key]) (by omega) (by omega) e2 (by simp [h4]) (by omega) htt;have hg:∀ {R:Type} (k:Option R),gd (names.length+([n.key]:List BA).length≤9223372036854775807∧(names.length+([n.key]:List BA).length)*16≤140737488355328) k=k:=fun k=>qAb (by simp only [List.length_singleton,h4]; omega) k
    have round:∀self:List Eng.Node→Int→Bool→Int→Option Int,(∀(b:Nat) (obj:Bool),a<b→0<kids→self v (b:Int) obj (open_+1)=some (ans b obj)) →
      qB6 self open_ (next:Int) (i:Int) v kd (kids:Int) names=bif decide (kd=7) then (zco_s names n.key).bind (fun b=>bif b then some (.inr (.inl (-1))) else some (.inl ((e:Int),((i+1:Nat):Int),names++[n.key]))) else some (.inl ((e:Int),((i+1:Nat):Int),names++[n.key])):=by
     intro self hself;have r1:=hself next (decide (kd=7)) h2 (by omega);rw [hrr] at r1;unfold qB6;rw [deT (show (i:Int)<(kids:Int) by omega),cnT,qAb (by unfold qAc; omega),r1,obS,deF hr,cnF];rw [qAb (fun _ _=>by omega),qAb (fun _ _=>by omega),qAb (fun _ _=>by omega)];simp only [Int.toNat_natCast,hget];by_cases h7:kd=7
     ·rw [deT h7,cnT,cnT];congr 1
      funext b
      cases b with
      | true=>rfl
      | false =>
       rw [cnF,qAb (by omega),qAb (by omega),qAb (by omega),hg,qAb (by unfold qAc; omega)];rfl
     ·rw [deF h7,cnF,cnF,qAb (by omega),qAb (by omega),qAb (by omega),hg,qAb (by unfold qAc; omega)];rfl
    have more:(∀self:List Eng.Node→Int→Bool→Int→Option Int,(∀(b:Nat) (obj:Bool),a<b→0<kids→self v (b:Int) obj (open_+1)=some (ans b obj)) →
      qB6 self open_ (next:Int) (i:Int) v kd (kids:Int) names=some (.inl ((e:Int),((i+1:Nat):Int),names++[n.key]))) →
      ∃y,(∀self:List Eng.Node→Int→Bool→Int→Option Int,(∀(b:Nat) (obj:Bool),a<b→0<kids→self v (b:Int) obj (open_+1)=some (ans b obj))→zcu_p0 self open_ (next:Int) (i:Int) v kd (kids:Int) names=some y)∧((y=.inl (-1))∨∃e:Nat,y=.inr (e:Int)∧Trees v kids (a+1) e):=by
     intro hst;refine ⟨y,fun self hself=>?_,y2⟩;have y3:=y1 self hself;unfold zcu_p0 at y3 ⊢;rw [qA9 (hst self hself)];exact y3
    by_cases h7:kd=7
    ·obtain ⟨b,hb⟩:=among_total names (by omega) n.key;cases b with
     | true =>
      refine ⟨.inl (-1),fun self hself=>?_,.inl rfl⟩;have:=round self hself;rw [deT h7,cnT,hb,obS,cnT] at this;unfold zcu_p0;exact qAj this
     | false =>
      refine more fun self hself=>?_
      have:=round self hself;rwa [deT h7,cnT,hb,obS,cnF] at this
    ·refine more fun self hself=>?_
     have:=round self hself;rwa [deF h7,cnF] at this
  ·have:i=kids:=by omega
   subst this;refine ⟨.inr (next:Int),fun self hself=>?_,.inr ⟨next,rfl,h6⟩⟩;unfold zcu_p0;refine qAj ?_;unfold qB6;dsimp only;rw [deF (by omega),cnF]
theorem take_total {v:List Eng.Node} (hv:OkL v):∀(m a:Nat) (obj:Bool) (open_:Int),v.length - a≤m→0≤open_∧open_≤32→∃r,(∀n,m<n→zcu_n n v (a:Int) obj open_=some r)∧Told v a r:=by
 intro m;induction m with
 | zero =>
  intro a obj open_ h1 h2;refine ⟨-1,fun n hn=>?_,.inl rfl⟩;cases n with
  | zero=>omega
  | succ n =>
   show zcu_t (zcu_n n) v a obj open_=_;unfold zcu_t;rw [deT (by omega),cnT]
 | succ m ih =>
  intro a obj open_ h1 h2;by_cases ha:a<v.length
  ·obtain ⟨nd,hnd,hmem,hget⟩:=nd_some ha;obtain ⟨p,hp,hp2⟩:=plain_total nd (hv.2 nd hmem);obtain ⟨u,hu⟩:=utf_total nd.key (hv.2 nd hmem).key;have hlen:=hv.1;have hki:=(hv.2 nd hmem).kids;unfold qAc at hki;cases hc:((((!p) || (!u)) || ((!obj) && (!decide (nd.key=⟨#[]⟩)))) || (decide (6≤nd.kind) && decide (open_=32))) with
   | true =>
    refine ⟨-1,fun n hn=>?_,.inl rfl⟩;cases n with
    | zero=>omega
    | succ n =>
     show zcu_t (zcu_n n) v a obj open_=_;unfold zcu_t;rw [deF (by omega),cnF,qAb (by omega),qAb (by omega),Int.toNat_natCast,hget,hp,obS,hu,obS,hc,cnT]
   | false =>
    have hpt:p=true:=by
     cases p
     ·simp at hc
     ·rfl
    obtain ⟨k0,k6⟩:=hp2 hpt;have hop:0<nd.kids→open_<32:=fun h=>by
     have h6:=k6 h;rw [Bool.or_eq_false_iff] at hc;have:=hc.2;rw [deT h6,Bool.true_and,decide_eq_false_iff_not] at this;omega
    obtain ⟨kk,hkk⟩:=Int.eq_ofNat_of_zero_le k0;have hch:∀(b:Nat) (ob:Bool),a<b→0<kk→∃r,(∀n,m<n→zcu_n n v (b:Int) ob (open_+1)=some r)∧Told v b r:=fun b ob hb hk=>ih b ob (open_+1) (by omega) (by have:=hop (by omega); omega)
    obtain ⟨ans,hans⟩:∃ans:Nat→Bool→Int,∀(b:Nat) (ob:Bool),a<b→0<kk→(∀n,m<n→zcu_n n v (b:Int) ob (open_+1)=some (ans b ob))∧Told v b (ans b ob) :=
     ⟨fun b ob=>if h:a<b∧0<kk then (hch b ob h.1 h.2).choose else 0,fun b ob h1 h2=>by
      simp only [dif_pos (And.intro h1 h2)];exact (hch b ob h1 h2).choose_spec⟩
    obtain ⟨y,hy1,hy2⟩:=take_loop hv (a:=a) h2 nd.kind (kids:=kk) (by omega) ans (fun b ob hb hk=>(hans b ob hb hk).2) v.length (a+1) 0 [] (by omega) (by omega) (by omega) rfl (by omega) (Trees.nil _ (by omega));refine ⟨Sum.elim id id y,fun n hn=>?_,?_⟩
    ·cases n with
     | zero=>omega
     | succ n =>
      show zcu_t (zcu_n n) v a obj open_=_;unfold zcu_t;rw [deF (by omega),cnF,qAb (by omega),qAb (by omega),Int.toNat_natCast,hget,hp,obS,hu,obS,hc,cnF,qAb (by unfold qAc; omega),hkk];have:=hy1 (zcu_n n) fun b ob hb hk=>(hans b ob hb hk).1 n (by omega)
      rw [show ((a+1:Nat):Int)=(a:Int)+1 by omega,show ((0:Nat):Int)=0 from rfl] at this;rw [this,obS];cases y <;> rfl
    ·rcases hy2 with rfl | ⟨e,rfl,he⟩
     ·exact .inl rfl
     ·refine .inr ⟨e,rfl,Tree.mk hnd k0 ?_⟩;rw [hkk];exact he
  ·refine ⟨-1,fun n hn=>?_,.inl rfl⟩;cases n with
   | zero=>omega
   | succ n =>
    show zcu_t (zcu_n n) v a obj open_=_;unfold zcu_t;rw [deT (by omega),cnT]
theorem take_some {v:List Eng.Node} (hv:OkL v) (a:Nat) (obj:Bool) (open_:Int) (ho:0≤open_∧open_≤32):∃r,zcu_s v (a:Int) obj open_=some r∧Told v a r:=by
 obtain ⟨r,h1,h2⟩:=take_total hv v.length a obj open_ (by omega) ho;exact ⟨r,evt_eq (N:=v.length+1) fun n hn=>h1 n (by omega),h2⟩
theorem shaped_some {v:List Eng.Node} (hv:OkL v):∃b,zcn_s v=some b∧(b=true→Tree v 0 v.length):=by
 unfold zcn_s;by_cases h0:0<v.length
 ·obtain ⟨r,h1,h2⟩:=take_some hv 0 false 0 (by omega);rw [show ((0:Nat):Int)=0 from rfl] at h1;rw [deT (by omega),cnT,h1,obS];refine ⟨_,rfl,fun h=>?_⟩;have h:=of_decide_eq_true h;rcases h2 with h2 | ⟨e,h2,h3⟩
  ·omega
  ·have:e=v.length:=by omega
   rwa [this] at h3
 ·rw [deF (by omega),cnF];exact ⟨false,rfl,fun h=>by cases h⟩
theorem w64_id {x:Int} (h:qAc x):w64 x=x:=by
 unfold qAc at h;unfold w64 IntKind.wrap;simp [IntKind.signed,IntKind.bits];omega
def jbF (v:List Eng.Node):Nat→Int→Nat→Nat
 | 0,_,a=>a
 | f+1,left,a=>if 0<left∧a<v.length then jbF v f (w64 (left+w64 ((v.getD a (ET.dft .node)).kids - 1))) (a+1) else a
theorem p_jb (v:List Eng.Node) (hv:v.length≤2000000):∀(f:Nat) (left:Int) (a:Nat),v.length - a≤f→zay_p0 (a:Int) left v=some (jbF v f left a:Int)
 | 0,left,a,h=>by
  unfold zay_p0;refine qAj ?_;unfold qC6;dsimp only;rw [deF (show ¬(a:Int)<v.length by omega),Bool.and_false,cnF];rfl
 | f+1,left,a,h=>by
  unfold jbF;by_cases hc:0<left∧a<v.length
  ·rw [if_pos hc];have ih:=p_jb v hv f (w64 (left+w64 ((v.getD a (ET.dft .node)).kids - 1))) (a+1) (by omega);unfold zay_p0 at ih ⊢;rw [qA9 (y:=(((a+1:Nat):Int),w64 (left+w64 ((v.getD a (ET.dft .node)).kids - 1)))) ?_]
   ·exact ih
   ·unfold qC6;dsimp only;rw [deT hc.1,deT (show (a:Int)<v.length by omega),Bool.and_self,cnT,qAb (by omega),qAb (by omega),qAb (by omega),qAb (by unfold qAc; omega)];rfl
  ·rw [if_neg hc];unfold zay_p0;refine qAj ?_;unfold qC6;dsimp only;have:(decide (0<left) && decide ((a:Int)<v.length))=false:=by
    rw [Bool.and_eq_false_iff,decide_eq_false_iff_not,decide_eq_false_iff_not];omega
   rw [this,cnF]
theorem p_jBehind (v:List Eng.Node) (hv:v.length≤2000000) {a:Nat} (ha:a<v.length):zay_s v (a:Int)=some (jbF v (v.length - a) 1 a:Int):=by
 unfold zay_s;rw [deF (show ¬(a:Int)<0 by omega),deF (show ¬(v.length:Int)≤a by omega),Bool.or_self,cnF,p_jb v hv (v.length - a) 1 a (Nat.le_refl _)];rfl
theorem jbF_trees {v:List Eng.Node} (hv:v.length≤2000000) {k a e:Nat} (h:Trees v k a e):∀(L:Nat),L+e≤4000000→jbF v (v.length - a) ((L+k:Nat):Int) a=jbF v (v.length - e) (L:Int) e:=by
 induction h with
 | nil a ha=>intro L hL; rfl
 | @cons k a b e n hn h0 h1 h2 i1 i2 =>
  intro L hL;have ha:=(List.getElem?_eq_some_iff.1 hn).1;have l1:=h1.le;have l2:=h2.le;obtain ⟨m,hm⟩:=Int.eq_ofNat_of_zero_le h0;have hmn:n.kids.toNat=m:=by omega
  rw [hmn] at i1 l1;have ih1:=i1 (L+k) (by omega);rw [i2 L hL] at ih1;rw [←ih1,show v.length - a=(v.length - (a+1))+1 by omega];conv=>lhs; unfold jbF
  rw [if_pos ⟨by omega,ha⟩,nd_get hn,hm,w64_id (x:=(m:Int) - 1) (by unfold qAc; omega),w64_id (by unfold qAc; omega)];congr 1
  omega
theorem jBehind_tree {v:List Eng.Node} (hv:v.length≤2000000) {a e:Nat} (h:Tree v a e):zay_s v (a:Int)=some (e:Int):=by
 have hl:=Trees.le h;rw [p_jBehind v hv (by omega)];have:=jbF_trees hv h 0 (by omega);rw [show ((0+1:Nat):Int)=1 from rfl] at this;rw [this];congr 1
 cases hf:v.length - e with
 | zero=>rfl
 | succ f =>
  unfold jbF;rw [if_neg (fun h=>by have:=h.1; simp at this)]
def findK (v:List Eng.Node) (key:BA):List Nat→Option Nat
 | []=>none
 | p::r=>if (v.getD p (ET.dft .node)).key=key then some p else findK v key r
theorem j_mem_loop {v:List Eng.Node} (hv:v.length≤2000000) {a:Nat} (ha:a<v.length) {kids:Nat} (hk:(v.getD a (ET.dft .node)).kids=kids) (hkb:kids≤4000000) (key:BA) :
  ∀(k i next e:Nat) (l:List Nat),i+k=kids→Trees v k next e→placesT v k next l e→zba_p0 (a:Int) key (next:Int) (i:Int) v=some (match findK v key l with | some p=>.inl (p:Int) | none=>.inr ())
 | 0,i,next,e,l,h1,h,hp=>by
  obtain ⟨rfl,rfl⟩:=hp;unfold zba_p0;refine qAj ?_;unfold qD0;dsimp only;rw [qAb (by omega),qAb (by omega),qAb (by omega),Int.toNat_natCast,hk,deF (show ¬(i:Int)<kids by omega),Bool.false_and,Bool.false_and,cnF];rfl
 | k+1,i,next,e,l,h1,h,hp=>by
  obtain ⟨b,r,rfl,g1,g3⟩:=hp;obtain ⟨b',g1',g2⟩:=h.one;have:=Trees.det g1 g1';subst this;have l1:=Trees.le g1;have ih:=j_mem_loop hv ha hk hkb key k (i+1) b e r (by omega) g2 g3;unfold findK;by_cases hkey:(v.getD next (ET.dft .node)).key=key
  ·rw [if_pos hkey];unfold zba_p0;refine qAj ?_;unfold qD0;dsimp only;rw [qAb (by omega),qAb (by omega),qAb (by omega),Int.toNat_natCast,hk,deT (show (i:Int)<kids by omega),deT (show (0:Int)≤next by omega),deT (show (next:Int)<v.length by omega),Bool.and_self,Bool.and_self,cnT];rw [qAb (by omega),qAb (by omega),qAb (by omega),Int.toNat_natCast,deT hkey,cnT]
  ·rw [if_neg hkey,←ih];unfold zba_p0;rw [qA9 (y:=((b:Int),((i+1:Nat):Int))) ?_];unfold qD0;dsimp only;rw [qAb (by omega),qAb (by omega),qAb (by omega),Int.toNat_natCast,hk,deT (show (i:Int)<kids by omega),deT (show (0:Int)≤next by omega),deT (show (next:Int)<v.length by omega),Bool.and_self,Bool.and_self,cnT];rw [qAb (by omega),qAb (by omega),qAb (by omega),Int.toNat_natCast,deF hkey,cnF,jBehind_tree hv g1,obS];exact (qAb (by unfold qAc; omega) _).trans rfl
theorem places_in {v:List Eng.Node}:∀ {k a e:Nat} {l:List Nat},placesT v k a l e→∀p∈l,p<v.length
 | 0,a,e,l,h,p,hp=>by rw [h.1] at hp; cases hp
 | k+1,a,e,l,h,p,hp=>by
  obtain ⟨b,r,rfl,g1,g2⟩:=h;rcases List.mem_cons.1 hp with rfl | hp
  ·have:=Trees.le g1; omega
  ·exact places_in g2 p hp
def memI:Option Nat→Int
 | none => -1
 | some p=>(p:Int)
theorem j_member {v:List Eng.Node} (hv:v.length≤2000000) {a e:Nat} {nd:Eng.Node} (h1:v[a]?=some nd) (h2:0≤nd.kids) (h3:Trees v nd.kids.toNat (a+1) e) {l:List Nat} (hl:placesT v nd.kids.toNat (a+1) l e) (key:BA) :
  zba_s v (a:Int) key=some (if nd.kind=7 then memI (findK v key l) else -1):=by
 have ha:=(List.getElem?_eq_some_iff.1 h1).1;have l3:=h3.le;have hlen:=hl.len;obtain ⟨kk,hkk⟩:=Int.eq_ofNat_of_zero_le h2;rw [hkk,Int.toNat_natCast] at h3 l3 hl hlen;have hj:=j_mem_loop hv ha (kids:=kk) (by rw [nd_get h1,hkk]) (by omega) key kk 0 (a+1) e l (by omega) h3 hl;rw [show ((a+1:Nat):Int)=(a:Int)+1 by omega,show ((0:Nat):Int)=0 from rfl] at hj;have e1:(decide ((a:Int)<0) || decide ((v.length:Int)≤a))=false:=by
  rw [deF (show ¬(a:Int)<0 by omega),deF (show ¬(v.length:Int)≤a by omega)]; rfl
 unfold zba_s;rw [e1];simp only [Int.toNat_natCast];rw [qAb (fun _=>by omega),qAb (fun _=>by omega),qAb (fun _=>by omega),Bool.false_or];by_cases h7:nd.kind=7
 ·have h7':(v.getD a (ET.dft .node)).kind=7:=by rw [nd_get h1]; exact h7
  rw [deT h7',Bool.not_true,cnF,qAb (by unfold qAc; omega),hj,obS,if_pos h7];cases hf:findK v key l with
  | none=>rfl
  | some p=>rfl
 ·have h7':¬(v.getD a (ET.dft .node)).kind=7:=by rw [nd_get h1]; exact h7
  rw [deF h7',Bool.not_false,cnT,if_neg h7]
end Go.Proofs.YtlmfmmgfiffjiaaGreatDoor
namespace Go.Eng
open Go.RowKit
end Go.Eng
