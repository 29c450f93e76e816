import Derived.Test.YtngikdcgcakaaaaDoorPDecRef
import Derived.Test.YtngikdcgcakaaaaDoorProg
namespace Go.Proofs.YtngikdcgcakaaaaDoor
open Go.Eng
set_option linter.unusedVariables false
set_option linter.unusedSimpArgs false
set_option maxRecDepth 100000
noncomputable section
structure qFc where
 at_:Int
 l:(List Eng.Node)
 s:BA
 code:Int
 bad:Int
def zau_b1:IQ:=(.loop [0,3,4] (.seq (.seq (rg 22 [oM 11 t3,oP 12 (.len t11),oP 13 (.bi .gtr t12 (vI 0)),oM 14 t13,oF 15 (.mv t3) 14,oF 16 (.mv t3) 14,oF 17 (.len t16) 14,oF 18 (.bi .sub t17 (vI 1)) 14,oF 19 (.iaddr 1 t15 t18) 14,oF 20 (.load none t19) 14,oF 21 (.bi .leq t20 (vI 0)) 14,oP 22 (.pick t14 t21 vF)]) (.cond t22 .skip (.cn [0,3,4] (.exit 2)))) (.block 3 (rg 3 [oM 23 t3,oM 24 t3,oP 25 (.len t24),oP 26 (.bi .sub t25 (vI 1)),oP 27 (.sub (some 1) t23 none (some t26)),oM 3 t27]))))
def zau_b2:IQ:=(.join [] [0,3,4] (.seq (rg 3 [oM 43 t3,oM 44 t0,oM 45 t4,oP 46 (.iaddr 6 t44 t45),oP 47 (.faddr 5 t46),oP 48 (.load none t47),oP 49 (.bslice 3 1 1 [.int .i64 0] [(0,t48)]),oP 50 (.append 3 1 8 [.int .i64 0] t43 t49),oM 3 t50]) (.seq (rg 53 [oM 51 t3,oP 52 (.len t51),oP 53 (.bi .gtr t52 (vI 65536))]) (.cond t53 (.seq (rg 2 [oP 2 (.mv vT)]) (.cn [2] .ret)) .skip))))
def zau_b0:IQ:=(.loop [0,3,4] (.seq (.seq (rg 8 [oM 5 t4,oM 6 t0,oP 7 (.len t6),oP 8 (.bi .lss t5 t7)]) (.cond t8 .skip (.cn [] (.exit 0)))) (.seq (.block 1 (.seq (.block 2 (.canon [(3,none,.i64,3)] [0,3,4] (.sub 1 zau_b1))) (.seq (.seq (rg 30 [oM 28 t3,oP 29 (.len t28),oP 30 (.bi .gtr t29 (vI 0))]) (.cond t30 (rg 0 [oM 31 t3,oM 32 t3,oP 33 (.len t32),oP 34 (.bi .sub t33 (vI 1)),oM 35 t3,oM 36 t3,oP 37 (.len t36),oP 38 (.bi .sub t37 (vI 1)),oP 39 (.iaddr 1 t35 t38),oP 40 (.load none t39),oP 41 (.bi .sub t40 (vI 1)),oP 42 (.iaddr 1 t31 t34),oN (.store 1 t42 t41)]) .skip)) (.canon [(3,none,.i64,3)] [0,3,4] (.sub 2 zau_b2))))) (rg 4 [oM 9 t4,oP 10 (.bi .add t9 (vI 1)),oM 4 t10]))))
def zau_q:IQ:=(.seq (rg 2 [oP 2 (.mv vF)]) (.seq (rg 3 [oP 3 (.mv (.v (.slice none 0 0)))]) (.seq (.seq (rg 4 [oP 4 (.mv (vI 0))]) (.block 0 (.canon [(3,none,.i64,3)] [0,3,4] (.sub 0 zau_b0)))) (.seq (rg 2 [oP 2 (.mv vF)]) (.cn [2] .ret)))))
def qC9(open_:List Int):Option (((List Int)) ⊕ ((List Int))) :=
 gd ((decide ((0:Int)<(open_.length:Int)))=true->qAd ((open_.length:Int) - (1:Int)))<|gd ((decide ((0:Int)<(open_.length:Int)))=true->0<=((open_.length:Int) - (1:Int))/\((open_.length:Int) - (1:Int))<open_.length)<|gd ((decide ((0:Int)<(open_.length:Int)))=true->(Int.toNat ((open_.length:Int) - (1:Int)))<open_.length)<|bif((decide ((0:Int)<(open_.length:Int))) && (decide ((open_.getD (Int.toNat ((open_.length:Int) - (1:Int))) (ET.dft .i64))<=(0:Int)))) then(gd (qAd ((open_.length:Int) - (1:Int)))<|gd (0<=((open_.length:Int) - (1:Int))/\((open_.length:Int) - (1:Int))<=open_.length)<|some (.inl (open_.take (Int.toNat ((open_.length:Int) - (1:Int)))))) else(some (.inr open_))
def zau_p1(open_:List Int):Option ((List Int)) :=
 qBa (λx:((List Int))=>qC9 x) open_
def zau_p2(i:Int)(v:List Eng.Node)(open_:List Int):Option (Bool ⊕ ((List Int))) :=
 gd (0<=i/\i<v.length)<|gd (i.toNat<v.length)<|gd (i.toNat<v.length)<|gd (open_.length+([(v.getD i.toNat (ET.dft .node)).kids]:List Int).length<=9223372036854775807/\(open_.length+([(v.getD i.toNat (ET.dft .node)).kids]:List Int).length)*8<=140737488355328)<|bif decide ((65536:Int)<((open_++[(v.getD i.toNat (ET.dft .node)).kids]).length:Int)) then(some (.inl true)) else(some (.inr (open_++[(v.getD i.toNat (ET.dft .node)).kids])))
def qC8(i:Int)(v:List Eng.Node)(open_:List Int):Option ((Int × (List Int)) ⊕ (Bool ⊕ Unit)) :=
 bif decide (i<(v.length:Int)) then((zau_p1 open_).bind λo8 =>bif decide ((0:Int)<(o8.length:Int)) then(gd (qAd ((o8.length:Int) - (1:Int)))<|gd (qAd ((o8.length:Int) - (1:Int)))<|gd (0<=((o8.length:Int) - (1:Int))/\((o8.length:Int) - (1:Int))<o8.length)<|gd ((Int.toNat ((o8.length:Int) - (1:Int)))<o8.length)<|gd (qAd ((o8.getD (Int.toNat ((o8.length:Int) - (1:Int))) (ET.dft .i64)) - (1:Int)))<|gd (0<=((o8.length:Int) - (1:Int))/\((o8.length:Int) - (1:Int))<o8.length)<|gd ((Int.toNat ((o8.length:Int) - (1:Int)))<o8.length)<|(zau_p2 i v (o8.set (Int.toNat ((o8.length:Int) - (1:Int))) ((o8.getD (Int.toNat ((o8.length:Int) - (1:Int))) (ET.dft .i64)) - (1:Int)))).bind λo9=>(Sum.elim (λ(o9_0:Bool) =>some (.inr (.inl o9_0))) (λ(o9_1:(List Int)) =>gd (qAd (i+(1:Int)))<|some (.inl ((i+(1:Int)),o9_1)))) o9) else((zau_p2 i v o8).bind λo10=>(Sum.elim (λ(o10_0:Bool) =>some (.inr (.inl o10_0))) (λ(o10_1:(List Int)) =>gd (qAd (i+(1:Int)))<|some (.inl ((i+(1:Int)),o10_1)))) o10)) else(some (.inr (.inr ())))
def zau_p0(i:Int)(v:List Eng.Node)(open_:List Int):Option (Bool ⊕ Unit) :=
 qBa (λx:(Int × (List Int))=>qC8 x.1 v x.2) (i,open_)
def zau_s(v:(List Eng.Node)):Option Bool :=
 (zau_p0 (0:Int) v []).bind λo11=>(Sum.elim (λ(o11_0:Bool) =>some o11_0) (λ(o11_1:Unit) =>some false)) o11
def zau_G:Nat->Option CQ:=tblQ []
def zDJR1:=(qAb (qBi .node) (qAb (dRow .i64 3) dNil))
def zDJR2:=(qAb (dSO 0 (dO 0)) (qAb (dSO 3 (dO 1)) (qAb (dSO 4 dZ) dNil)))
def zau_d1:=(dQS zDJR2 zDJR1)
def zau_l1:SubQ:=mkL zau_d1 (λx=>zau_p1 x.2.2.1) λx r R kn kx kr=>kx 2 ⟨[sL 0 (.own 0),sL 3 (.own 1),sL 4 (.vI x.1.2.2.1)],[],[.view .node x.2.1,.row .i64 3 r]⟩
def zau_d2:=(dQS zDJR2 zDJR1)
def zau_l2:SubQ:=mkL zau_d2 (λx=>zau_p2 x.1.2.2.1 x.2.1 x.2.2.1) λx r R kn kx kr=>(Sum.elim (λ(r_0:Bool)=>kr ⟨[sL 2 (.vB r_0)],[],[.view .node x.2.1]⟩) (λ(r_1:(List Int))=>kn ⟨[sL 0 (.own 0),sL 3 (.own 1),sL 4 (.vI x.1.2.2.1)],[],[.view .node x.2.1,.row .i64 3 r_1]⟩)) r
def zau_d0:=(dQS zDJR2 zDJR1)
def zau_l0:SubQ:=mkL zau_d0 (λx=>zau_p0 x.1.2.2.1 x.2.1 x.2.2.1) λx r R kn kx kr=>(Sum.elim (λ(r_0:Bool)=>kr ⟨[sL 2 (.vB r_0)],[],[.view .node x.2.1]⟩) (λ(r_1:Unit)=>kx 0 ⟨[],[],[.view .node x.2.1]⟩)) r
def zau_L:Nat->SubQ:=tblL [(1,zau_l1),(2,zau_l2),(0,zau_l0)]
theorem zau_sub1:qBr zau_L zau_G 1 5 54 1 zau_b1:=qAu (show zau_L 1=zau_l1 from by kernel_rfl) λx R kn kx kr=>qAk (step:=λy=>qC9 y) (enc:=λ(y:(List Int))=>zau_d1.e (x.1,(x.2.1,y,x.2.2.2))) (λy=>by kernel_rfl) (λy ki=>by simp only[qC9,-eq_self,sZ];kernel_rfl) x.2.2.1
theorem zau_sub2:qBr zau_L zau_G 1 5 54 2 zau_b2:=qAu (show zau_L 2=zau_l2 from by kernel_rfl) λx R kn kx kr=>by
 simp only[zau_p2,-eq_self,sZ];kernel_rfl
theorem zau_sub0:qBr zau_L zau_G 1 5 54 0 zau_b0:=qAu (show zau_L 0=zau_l0 from by kernel_rfl) λx R kn kx kr=>qAk (step:=λy=>qC8 y.1 x.2.1 y.2) (enc:=λ(y:Int × (List Int))=>zau_d0.e ((x.1.1,x.1.2.1,y.1,x.1.2.2.2),(x.2.1,y.2,x.2.2.2))) (λy=>by kernel_rfl) (λy ki=>by simp only[qC8,-eq_self,sZ];kernel_rfl) (x.1.2.2.1,x.2.2.1)
def zau_c:CS:=mkC (qAb (dVC (dCO (dO 0))) dNil) (qAb (qBi .node) dNil) (λx y=>zau_s y.1) (λx y r=>.c (.o (.vB r))) λx y r=>[.view .node y.1]
theorem zau_val:qAj Tryd.prog 10 zau_c:=vl1 zau_q [.tmp 2] 54 5 1 (show qA6 zau_L zau_G 1 5 54 [(0,zau_b0),(1,zau_b1),(2,zau_b2)] from⟨zau_sub0,zau_sub1,zau_sub2,tV⟩) (λf C h=>by cases h) λx y=>by
 simp only[zau_s,-eq_self,sZ];kernel_rfl
def zau_w:CQ:=qDz [(0,none,some (.node,39))] (qCm [false] zau_c)
theorem zau_ok:qAg Tryd.prog 10 zau_w:=qA3 zau_val
def zaz_q:IQ:=(.seq (rg 4 [oP 2 (.mv (vI 0)),oP 3 (.mv (vI 0)),oP 4 (.mv (vI 0))]) (.seq (.block 0 (.seq (rg 5 [oM 6 t0,oP 7 (.bi .lss t6 (vI 194)),oM 8 t7,oE 9 (.mv t0) 8,oE 10 (.bi .gtr t9 (vI 244)) 8,oP 11 (.pick t8 vT t10),oM 5 t11]) (.cond t5 (.seq (rg 4 [oP 2 (.mv (.v (.int .i64 (-1)))),oP 3 (.mv (vI 0)),oP 4 (.mv (vI 0))]) (.cn [2,3,4] .ret)) (.seq (rg 12 [oM 13 t0,oP 14 (.bi .lss t13 (vI 224)),oM 12 t14]) (.cond t12 (.seq (rg 4 [oP 2 (.mv (vI 1)),oP 3 (.mv (vI 128)),oP 4 (.mv (vI 191))]) (.cn [2,3,4] .ret)) (.seq (rg 15 [oM 16 t0,oP 17 (.bi .eql t16 (vI 224)),oM 15 t17]) (.cond t15 (.seq (rg 4 [oP 2 (.mv (vI 2)),oP 3 (.mv (vI 160)),oP 4 (.mv (vI 191))]) (.cn [2,3,4] .ret)) (.seq (rg 18 [oM 19 t0,oP 20 (.bi .eql t19 (vI 237)),oM 18 t20]) (.cond t18 (.seq (rg 4 [oP 2 (.mv (vI 2)),oP 3 (.mv (vI 128)),oP 4 (.mv (vI 159))]) (.cn [2,3,4] .ret)) (.seq (rg 21 [oM 22 t0,oP 23 (.bi .lss t22 (vI 240)),oM 21 t23]) (.cond t21 (.seq (rg 4 [oP 2 (.mv (vI 2)),oP 3 (.mv (vI 128)),oP 4 (.mv (vI 191))]) (.cn [2,3,4] .ret)) (.seq (rg 24 [oM 25 t0,oP 26 (.bi .eql t25 (vI 240)),oM 24 t26]) (.cond t24 (.seq (rg 4 [oP 2 (.mv (vI 3)),oP 3 (.mv (vI 144)),oP 4 (.mv (vI 191))]) (.cn [2,3,4] .ret)) (.seq (rg 27 [oM 28 t0,oP 29 (.bi .eql t28 (vI 244)),oM 27 t29]) (.cond t27 (.seq (rg 4 [oP 2 (.mv (vI 3)),oP 3 (.mv (vI 128)),oP 4 (.mv (vI 143))]) (.cn [2,3,4] .ret)) .skip))))))))))))))) (.seq (rg 4 [oP 2 (.mv (vI 3)),oP 3 (.mv (vI 128)),oP 4 (.mv (vI 191))]) (.cn [2,3,4] .ret))))
def zaz_s(c:Int):Option (Int × Int × Int) :=
 bif((decide (c<(194:Int))) || (decide ((244:Int)<c))) then(some ((-1:Int),(0:Int),(0:Int))) else(bif decide (c<(224:Int)) then(some ((1:Int),(128:Int),(191:Int))) else(bif decide (c=(224:Int)) then(some ((2:Int),(160:Int),(191:Int))) else(bif decide (c=(237:Int)) then(some ((2:Int),(128:Int),(159:Int))) else(bif decide (c<(240:Int)) then(some ((2:Int),(128:Int),(191:Int))) else(bif decide (c=(240:Int)) then(some ((3:Int),(144:Int),(191:Int))) else(bif decide (c=(244:Int)) then(some ((3:Int),(128:Int),(143:Int))) else(some ((3:Int),(128:Int),(191:Int)))))))))
def zaz_c:CS:=mkC (qAb (dVC (dCO dZ)) dNil) dNil (λx y=>zaz_s x.1) (λx y r=>.tup [.o (.vI r.1),.o (.vI r.2.1),.o (.vI r.2.2)]) λx y r=>[]
theorem zaz_val:qAj Tryd.prog 79 zaz_c:=vl0 zaz_q [.tmp 2,.tmp 3,.tmp 4] 30 5 0 [] trivial λx y=>by
 simp only[zaz_s,-eq_self,sZ];kernel_rfl
def zaz_w:CQ:=qCm [] zaz_c
theorem zaz_ok:qAg Tryd.prog 79 zaz_w:=qA5 zaz_val
def zbb_q:IQ:=(.seq (rg 4 [oP 4 (.alloc 105 [.int .i64 0,.slice none 0 0,.string ⟨#[]⟩,.int .i64 0,.int .i64 0])]) (.seq (rg 0 [oM 5 t0,oM 6 t1,oP 7 (.build [.int .i64 0,.slice none 0 0,.string ⟨#[]⟩,.int .i64 0,.int .i64 0] [(3,1,t5),(4,1,t6)]),oN (.store 5 t4 t7)]) (.canon [(4,some 1,.node,39)] [4] .ret)))
def zbb_s(e at_:Int):Option qFc :=
 some (⟨(0:Int),[],(⟨#[]⟩:BA),e,at_⟩:qFc)
def zbb_c:CS:=mkC (qAb (dVC (dCO dZ)) (qAb (dVC (dCO dZ)) dNil)) dNil (λx y=>zbb_s x.1 x.2.1) (λx y r=>.c (.agg [.vI r.at_,.own 0,.vS r.s,.vI r.code,.vI r.bad])) λx y r=>[.row .node 39 r.l]
theorem zbb_val:qAj Tryd.prog 80 zbb_c:=vl0 zbb_q [.cell 4 (some 5)] 8 5 0 [] trivial λx y=>by
 simp only[zbb_s,-eq_self,sZ];kernel_rfl
def zbb_w:CQ:=liftQ [] zbb_c
theorem zbb_ok:qAg Tryd.prog 80 zbb_w:=liftQ_valid zbb_val
def zba_q:IQ:=(.seq (rg 4 [oP 4 (.mv (vI 0))]) (.seq (.seq (rg 8 [oM 5 t1,oM 6 t0,oP 7 (.lenS t6),oP 8 (.bi .geq t5 t7)]) (.cond t8 (.seq (rg 4 [oP 4 (.mv (.v (.int .i64 (-1))))]) (.cn [4] .ret)) .skip)) (.seq (rg 4 [oM 9 t0,oM 10 t1,oP 11 (.index t9 t10),oP 12 (.conv false .i64 t11),oM 4 t12]) (.cn [4] .ret))))
def zba_s(t:BA)(at_:Int):Option Int :=
 bif decide ((t.size:Int)<=at_) then(some (-1:Int)) else(gd (0<=at_/\at_<t.size)<|gd (qAd (bAt t at_))<|some (bAt t at_))
def zba_c:CS:=mkC (qAb (dVC (dCO dS)) (qAb (dVC (dCO dZ)) dNil)) dNil (λx y=>zba_s x.1 x.2.1) (λx y r=>.c (.o (.vI r))) λx y r=>[]
theorem zba_val:qAj Tryd.prog 81 zba_c:=vl0 zba_q [.tmp 4] 13 5 0 [] trivial λx y=>by
 simp only[zba_s,-eq_self,sZ];kernel_rfl
def zba_w:CQ:=qCm [] zba_c
theorem zba_ok:qAg Tryd.prog 81 zba_w:=qA5 zba_val
def zbd_b0:IQ:=(.loop [0,1,4,5,6,7,8] (.seq (.seq (rg 25 [oM 23 t8,oM 24 t5,oP 25 (.bi .leq t23 t24)]) (.cond t25 .skip (.cn [0,1,4,5] (.exit 0)))) (.seq (.block 1 (.seq (rg 9 [oM 28 t0,oM 29 t1,oM 30 t8,oP 31 (.bi .add t29 t30),oP 32 (.call 81 [t28,t31]),oM 9 t32]) (.seq (.seq (rg 34 [oM 33 t9,oP 34 (.bi .lss t33 (vI 0))]) (.cond t34 (.seq (rg 0 [oM 35 t0,oP 36 (.lenS t35),oP 37 (.call 80 [(vI 31),t36]),oN (.store 5 t4 t37)]) (.canon [(4,some 1,.node,39)] [4] .ret)) .skip)) (.seq (.seq (rg 45 [oM 38 t9,oM 39 t6,oP 40 (.bi .lss t38 t39),oM 41 t40,oE 42 (.mv t9) 41,oE 43 (.mv t7) 41,oE 44 (.bi .gtr t42 t43) 41,oP 45 (.pick t41 vT t44)]) (.cond t45 (.seq (rg 0 [oM 46 t1,oP 47 (.call 80 [(vI 32),t46]),oN (.store 5 t4 t47)]) (.canon [(4,some 1,.node,39)] [4] .ret)) .skip)) (.seq (rg 6 [oP 6 (.mv (vI 128))]) (rg 7 [oP 7 (.mv (vI 191))])))))) (rg 8 [oM 26 t8,oP 27 (.bi .add t26 (vI 1)),oM 8 t27]))))
def zbd_q:IQ:=(.seq (rg 4 [oP 4 (.alloc 105 [.int .i64 0,.slice none 0 0,.string ⟨#[]⟩,.int .i64 0,.int .i64 0])]) (.seq (rg 7 [oM 11 t0,oM 12 t1,oP 13 (.index t11 t12),oP 14 (.conv false .i64 t13),oP 15 (.call 79 [t14]),oM 10 t15,oP 16 (.extract t10 0),oP 17 (.extract t10 1),oP 18 (.extract t10 2),oM 5 t16,oM 6 t17,oM 7 t18]) (.seq (.seq (rg 20 [oM 19 t5,oP 20 (.bi .lss t19 (vI 0))]) (.cond t20 (.seq (rg 0 [oM 21 t1,oP 22 (.call 80 [(vI 32),t21]),oN (.store 5 t4 t22)]) (.canon [(4,some 1,.node,39)] [4] .ret)) .skip)) (.seq (.seq (rg 8 [oP 8 (.mv (vI 1))]) (.block 0 (.cn [0,1,4,5,6,7,8] (.sub 0 zbd_b0)))) (.seq (rg 0 [oM 48 t1,oM 49 t5,oP 50 (.bi .add t48 t49),oP 51 (.bi .add t50 (vI 1)),oM 52 t0,oM 53 t1,oM 54 t1,oM 55 t5,oP 56 (.bi .add t54 t55),oP 57 (.bi .add t56 (vI 1)),oP 58 (.sub none t52 (some t53) (some t57)),oP 59 (.build [.int .i64 0,.slice none 0 0,.string ⟨#[]⟩,.int .i64 0,.int .i64 0] [(0,1,t51),(2,1,t58)]),oN (.store 5 t4 t59)]) (.canon [(4,some 1,.node,39)] [4] .ret))))))
def qCd(t:BA)(at_ n low high i:Int):Option ((Int × Int × Int) ⊕ ((Int × BA × Int × Int × (List Eng.Node)) ⊕ Unit)) :=
 bif decide (i<=n) then(gd (qAd (at_+i))<|(zba_s t (at_+i)).bind λr18 =>bif decide (r18<(0:Int)) then((zbb_s (31:Int) (t.size:Int)).bind λr19 =>some (.inr (.inl (r19.at_,r19.s,r19.code,r19.bad,r19.l)))) else(bif((decide (r18<low)) || (decide (high<r18))) then((zbb_s (32:Int) at_).bind λr20 =>some (.inr (.inl (r20.at_,r20.s,r20.code,r20.bad,r20.l)))) else(gd (qAd (i+(1:Int)))<|some (.inl ((128:Int),(191:Int),(i+(1:Int))))))) else(some (.inr (.inr ())))
def zbd_p0(t:BA)(at_ n low high i:Int):Option ((Int × BA × Int × Int × (List Eng.Node)) ⊕ Unit) :=
 qBa (λx:(Int × Int × Int)=>qCd t at_ n x.1 x.2.1 x.2.2) (low,high,i)
def zbd_s(t:BA)(at_:Int):Option qFc :=
 gd (0<=at_/\at_<t.size)<|gd (qAd (bAt t at_))<|(zaz_s (bAt t at_)).bind λr16 =>bif decide (r16.1<(0:Int)) then((zbb_s (32:Int) at_).bind λr17 =>some r17) else((zbd_p0 t at_ r16.1 r16.2.1 r16.2.2 (1:Int)).bind λo21=>(Sum.elim (λ(o21_0:Int × BA × Int × Int × (List Eng.Node)) =>some (⟨o21_0.1,o21_0.2.2.2.2,o21_0.2.1,o21_0.2.2.1,o21_0.2.2.2.1⟩:qFc)) (λ(o21_1:Unit) =>gd (qAd (at_+r16.1))<|gd (qAd ((at_+r16.1)+(1:Int)))<|gd (qAd (at_+r16.1))<|gd (qAd ((at_+r16.1)+(1:Int)))<|gd (0<=at_/\at_<=((at_+r16.1)+(1:Int))/\((at_+r16.1)+(1:Int))<=t.size)<|some (⟨((at_+r16.1)+(1:Int)),[],(t.extract at_.toNat (Int.toNat ((at_+r16.1)+(1:Int)))),(0:Int),(0:Int)⟩:qFc))) o21)
def zbd_G:Nat->Option CQ:=tblQ [(79,zaz_w),(80,zbb_w),(81,zba_w)]
def zbd_d0:=(dQS (qAb (dSO 0 dS) (qAb (dSO 1 dZ) (qAb (dSO 4 (dH 0 0)) (qAb (dSO 5 dZ) (qAb (dSO 6 dZ) (qAb (dSO 7 dZ) (qAb (dSO 8 dZ) dNil))))))) (qAb (dCells 105 (qAb dZ (qAb dNS (qAb dS (qAb dZ (qAb dZ dNil)))))) dNil))
def zbd_l0:SubQ:=mkL zbd_d0 (λx=>zbd_p0 x.1.1 x.1.2.1 x.1.2.2.2.1 x.1.2.2.2.2.1 x.1.2.2.2.2.2.1 x.1.2.2.2.2.2.2.1) λx r R kn kx kr=>(Sum.elim (λ(r_0:Int × BA × Int × Int × (List Eng.Node))=>kr ⟨[sL 4 (.hd 0 0)],[],[.cells 105 [.vI r_0.1,.own 1,.vS r_0.2.1,.vI r_0.2.2.1,.vI r_0.2.2.2.1],.row .node 39 r_0.2.2.2.2]⟩) (λ(r_1:Unit)=>kx 0 ⟨[sL 0 (.vS x.1.1),sL 1 (.vI x.1.2.1),sL 4 (.hd 0 0),sL 5 (.vI x.1.2.2.2.1)],[],[.cells 105 [.vI x.2.1.1,.val (.slice none 0 0),.vS x.2.1.2.2.1,.vI x.2.1.2.2.2.1,.vI x.2.1.2.2.2.2.1]]⟩)) r
def zbd_L:Nat->SubQ:=tblL [(0,zbd_l0)]
theorem zbd_sub0:qBr zbd_L zbd_G 0 10 60 0 zbd_b0:=qAu (show zbd_L 0=zbd_l0 from by kernel_rfl) λx R kn kx kr=>qAk (step:=λy=>qCd x.1.1 x.1.2.1 x.1.2.2.2.1 y.1 y.2.1 y.2.2) (enc:=λ(y:Int × Int × Int)=>zbd_d0.e ((x.1.1,x.1.2.1,x.1.2.2.1,x.1.2.2.2.1,y.1,y.2.1,y.2.2,x.1.2.2.2.2.2.2.2),x.2)) (λy=>by kernel_rfl) (λy ki=>by simp only[qCd,-eq_self,sZ];kernel_rfl) (x.1.2.2.2.2.1,x.1.2.2.2.2.2.1,x.1.2.2.2.2.2.2.1)
def zbd_c:CS:=mkC (qAb (dVC (dCO dS)) (qAb (dVC (dCO dZ)) dNil)) dNil (λx y=>zbd_s x.1 x.2.1) (λx y r=>.c (.agg [.vI r.at_,.own 0,.vS r.s,.vI r.code,.vI r.bad])) λx y r=>[.row .node 39 r.l]
theorem zbd_val:qAj Tryd.prog 67 zbd_c:=vl1 zbd_q [.cell 4 (some 5)] 60 10 0 (show qA6 zbd_L zbd_G 0 10 60 [(0,zbd_b0)] from⟨zbd_sub0,tV⟩) (qA1 ⟨zaz_ok,zbb_ok,zba_ok,tV⟩) λx y=>by
 simp only[zbd_s,-eq_self,sZ];kernel_rfl
def zbd_w:CQ:=liftQ [] zbd_c
theorem zbd_ok:qAg Tryd.prog 67 zbd_w:=liftQ_valid zbd_val
def zbf_b0:IQ:=(.loop [0,3] (.seq (.seq (rg 8 [oM 5 t3,oM 6 t0,oP 7 (.lenS t6),oP 8 (.bi .lss t5 t7)]) (.cond t8 .skip (.cn [] (.exit 0)))) (.block 1 (.seq (.seq (rg 12 [oM 9 t0,oM 10 t3,oP 11 (.index t9 t10),oP 12 (.bi .lss t11 (vC 128))]) (.cond t12 (.seq (rg 3 [oM 13 t3,oP 14 (.bi .add t13 (vI 1)),oM 3 t14]) (.exit 1)) .skip)) (.seq (rg 0 [oM 15 t0,oM 16 t3,oP 17 (.call 67 [t15,t16]),oP 4 (.alloc 105 [.int .i64 0,.slice none 0 0,.string ⟨#[]⟩,.int .i64 0,.int .i64 0]),oN (.store 5 t4 t17)]) (.seq (.seq (rg 20 [oP 18 (.faddr 3 t4),oP 19 (.load none t18),oP 20 (.bi .neq t19 (vI 0))]) (.cond t20 (.seq (rg 2 [oP 2 (.mv vF)]) (.cn [2] .ret)) .skip)) (rg 3 [oP 21 (.faddr 0 t4),oP 22 (.load none t21),oM 3 t22])))))))
def zbf_q:IQ:=(.seq (rg 2 [oP 2 (.mv vF)]) (.seq (rg 3 [oP 3 (.mv (vI 0))]) (.seq (.block 0 (.cn [0,3] (.sub 0 zbf_b0))) (.seq (rg 2 [oP 2 (.mv vT)]) (.cn [2] .ret)))))
def qCe(s:BA)(at_:Int):Option (Int ⊕ (Bool ⊕ Unit)) :=
 bif decide (at_<(s.size:Int)) then(gd (0<=at_/\at_<s.size)<|bif decide ((bAt s at_)<(128:Int)) then(gd (qAd (at_+(1:Int)))<|some (.inl (at_+(1:Int)))) else((zbd_s s at_).bind λr1 =>bif(!decide (r1.code=(0:Int))) then(some (.inr (.inl false))) else(some (.inl r1.at_)))) else(some (.inr (.inr ())))
def zbf_p0(s:BA)(at_:Int):Option (Bool ⊕ Unit) :=
 qBa (λx:Int=>qCe s x) at_
def zbf_s(s:BA):Option Bool :=
 (zbf_p0 s (0:Int)).bind λo2=>(Sum.elim (λ(o2_0:Bool) =>some o2_0) (λ(o2_1:Unit) =>some true)) o2
def zbf_G:Nat->Option CQ:=tblQ [(67,zbd_w)]
def zbf_d0:=(dQS (qAb (dSO 0 dS) (qAb (dSO 3 dZ) dNil)) dNil)
def zbf_l0:SubQ:=mkL zbf_d0 (λx=>zbf_p0 x.1.1 x.1.2.1) λx r R kn kx kr=>(Sum.elim (λ(r_0:Bool)=>kr ⟨[sL 2 (.vB r_0)],[],[]⟩) (λ(r_1:Unit)=>kx 0 ⟨[],[],[]⟩)) r
def zbf_L:Nat->SubQ:=tblL [(0,zbf_l0)]
theorem zbf_sub0:qBr zbf_L zbf_G 0 5 23 0 zbf_b0:=qAu (show zbf_L 0=zbf_l0 from by kernel_rfl) λx R kn kx kr=>qAk (step:=λy=>qCe x.1.1 y) (enc:=λ(y:Int)=>zbf_d0.e ((x.1.1,y,x.1.2.2),x.2)) (λy=>by kernel_rfl) (λy ki=>by simp only[qCe,-eq_self,sZ];kernel_rfl) x.1.2.1
def zbf_c:CS:=mkC (qAb (dVC (dCO dS)) dNil) dNil (λx y=>zbf_s x.1) (λx y r=>.c (.o (.vB r))) λx y r=>[]
theorem zbf_val:qAj Tryd.prog 44 zbf_c:=vl1 zbf_q [.tmp 2] 23 5 0 (show qA6 zbf_L zbf_G 0 5 23 [(0,zbf_b0)] from⟨zbf_sub0,tV⟩) (qA1 ⟨zbd_ok,tV⟩) λx y=>by
 simp only[zbf_s,-eq_self,sZ];kernel_rfl
def zbf_w:CQ:=qCm [] zbf_c
theorem zbf_ok:qAg Tryd.prog 44 zbf_w:=qA5 zbf_val
def zbc_q:IQ:=(.seq (rg 2 [oP 1 (.box 39 6 t0),oP 2 (.mv vF)]) (.seq (rg 3 [oP 8 (.faddr 0 t1),oP 9 (.load none t8),oM 3 t9]) (.seq (.seq (rg 29 [oM 10 t3,oP 11 (.bi .lss t10 (vI 1)),oM 12 t11,oE 13 (.mv t3) 12,oE 14 (.bi .gtr t13 (vI 7)) 12,oP 15 (.pick t12 vT t14),oM 16 t15,oE 17 (.faddr 5 t1) 16,oE 18 (.load none t17) 16,oE 19 (.bi .lss t18 (vI 0)) 16,oP 20 (.pick t16 vT t19),oM 21 t20,oE 22 (.faddr 5 t1) 21,oE 23 (.load none t22) 21,oE 24 (.bi .gtr t23 (vI 0)) 21,oE 25 (.mv t24) 21,oF 26 (.mv t3) 25,oF 27 (.bi .lss t26 (vI 6)) 25,oE 28 (.pick t25 t27 vF) 21,oP 29 (.pick t21 vT t28)]) (.cond t29 (.seq (rg 2 [oP 2 (.mv vF)]) (.cn [2] .ret)) .skip)) (.seq (rg 5 [oP 31 (.faddr 2 t1),oP 32 (.load none t31),oP 33 (.call 66 [t32]),oM 30 t33,oP 34 (.extract t30 0),oP 35 (.extract t30 1),oM 4 t34,oM 5 t35]) (.seq (rg 6 [oP 36 (.faddr 2 t1),oP 37 (.load none t36),oP 38 (.call 61 [t37]),oM 6 t38]) (.seq (rg 7 [oP 39 (.faddr 2 t1),oP 40 (.load none t39),oP 41 (.call 44 [t40]),oM 7 t41]) (.seq (.block 0 (.seq (rg 42 [oM 43 t3,oP 44 (.bi .eql t43 (vI 4)),oM 42 t44]) (.cond t42 (.seq (rg 2 [oM 45 t6,oM 46 t45,oF 47 (.mv t5) 46,oF 48 (.faddr 3 t1) 46,oF 49 (.load none t48) 46,oF 50 (.beq false t47 t49) 46,oP 51 (.pick t46 t50 vF),oM 52 t51,oF 53 (.mv t4) 52,oF 54 (.faddr 4 t1) 52,oF 55 (.load none t54) 52,oF 56 (.bi .eql t53 t55) 52,oP 57 (.pick t52 t56 vF),oM 2 t57]) (.cn [2] .ret)) (.seq (rg 58 [oP 59 (.faddr 3 t1),oP 60 (.load none t59),oM 61 t60,oE 62 (.faddr 4 t1) 61,oE 63 (.load none t62) 61,oE 64 (.bi .neq t63 (vI 0)) 61,oP 65 (.pick t61 vT t64),oM 58 t65]) (.cond t58 (.seq (rg 2 [oP 2 (.mv vF)]) (.cn [2] .ret)) (.seq (rg 66 [oM 67 t3,oP 68 (.bi .eql t67 (vI 5)),oM 66 t68]) (.cond t66 (.seq (rg 2 [oM 69 t7,oM 2 t69]) (.cn [2] .ret)) .skip))))))) (.seq (rg 2 [oP 70 (.faddr 2 t1),oP 71 (.load none t70),oP 72 (.bi .eql t71 (.v (.string ⟨#[]⟩))),oM 2 t72]) (.cn [2] .ret)))))))))
def zbc_s(n:Eng.Node):Option Bool :=
 bif((((decide (n.kind<(1:Int))) || (decide ((7:Int)<n.kind))) || (decide (n.kids<(0:Int)))) || ((decide ((0:Int)<n.kids)) && (decide (n.kind<(6:Int))))) then(some false) else((zaq_s n.text).bind λr1 =>(zap_s n.text).bind λr2 =>(zbf_s n.text).bind λr3 =>bif decide (n.kind=(4:Int)) then(some ((r2 && (r1.2 == n.whole)) && (decide (r1.1=n.int)))) else(bif(n.whole || (!decide (n.int=(0:Int)))) then(some false) else(bif decide (n.kind=(5:Int)) then(some r3) else(some (decide (n.text=(⟨#[]⟩:BA)))))))
def zbc_c:CS:=mkC (qAb (dVC (dCA (qAb dZ (qAb dS (qAb dS (qAb dB (qAb dZ (qAb dZ dNil)))))))) dNil) dNil (λx y=>zbc_s (⟨x.1.1,x.1.2.1,x.1.2.2.1,x.1.2.2.2.1,x.1.2.2.2.2.1,x.1.2.2.2.2.2.1⟩:Eng.Node)) (λx y r=>.c (.o (.vB r))) λx y r=>[]
theorem zbc_val:qAj Tryd.prog 43 zbc_c:=vl0 zbc_q [.tmp 2] 73 8 0 [(66,zaq_w),(61,zap_w),(44,zbf_w)] ⟨zaq_ok,zap_ok,zbf_ok,tV⟩ λx y=>by
 simp only[zbc_s,-eq_self,sZ];kernel_rfl
def zbc_w:CQ:=qCm [] zbc_c
theorem zbc_ok:qAg Tryd.prog 43 zbc_w:=qA5 zbc_val
def zay_b0:IQ:=(.loop [0,1,5] (.seq (.seq (rg 9 [oM 6 t5,oM 7 t0,oP 8 (.len t7),oP 9 (.bi .lss t6 t8)]) (.cond t9 .skip (.cn [] (.exit 0)))) (.seq (.block 1 (.seq (rg 17 [oM 12 t0,oM 13 t5,oP 14 (.iaddr 1 t12 t13),oP 15 (.load none t14),oM 16 t1,oP 17 (.bi .eql t15 t16)]) (.cond t17 (.seq (rg 4 [oP 4 (.mv vT)]) (.cn [4] .ret)) .skip))) (rg 5 [oM 10 t5,oP 11 (.bi .add t10 (vI 1)),oM 5 t11]))))
def zay_q:IQ:=(.seq (rg 4 [oP 4 (.mv vF)]) (.seq (.seq (rg 5 [oP 5 (.mv (vI 0))]) (.block 0 (.cn [0,1,5] (.sub 0 zay_b0)))) (.seq (rg 4 [oP 4 (.mv vF)]) (.cn [4] .ret))))
def qDb(s:BA)(i:Int)(l:List BA):Option (Int ⊕ (Bool ⊕ Unit)) :=
 bif decide (i<(l.length:Int)) then(gd (0<=i/\i<l.length)<|gd (i.toNat<l.length)<|bif decide ((l.getD i.toNat (ET.dft .str))=s) then(some (.inr (.inl true))) else(gd (qAd (i+(1:Int)))<|some (.inl (i+(1:Int))))) else(some (.inr (.inr ())))
def zay_p0(s:BA)(i:Int)(l:List BA):Option (Bool ⊕ Unit) :=
 qBa (λx:Int=>qDb s x l) i
def zay_s(l:(List BA))(s:BA):Option Bool :=
 (zay_p0 s (0:Int) l).bind λo1=>(Sum.elim (λ(o1_0:Bool) =>some o1_0) (λ(o1_1:Unit) =>some false)) o1
def zay_G:Nat->Option CQ:=tblQ []
def zay_d0:=(dQS (qAb (dSO 0 (dO 0)) (qAb (dSO 1 dS) (qAb (dSO 5 dZ) dNil))) (qAb (qBi .str) dNil))
def zay_l0:SubQ:=mkL zay_d0 (λx=>zay_p0 x.1.2.1 x.1.2.2.1 x.2.1) λx r R kn kx kr=>(Sum.elim (λ(r_0:Bool)=>kr ⟨[sL 4 (.vB r_0)],[],[.view .str x.2.1]⟩) (λ(r_1:Unit)=>kx 0 ⟨[],[],[.view .str x.2.1]⟩)) r
def zay_L:Nat->SubQ:=tblL [(0,zay_l0)]
theorem zay_sub0:qBr zay_L zay_G 1 6 18 0 zay_b0:=qAu (show zay_L 0=zay_l0 from by kernel_rfl) λx R kn kx kr=>qAk (step:=λy=>qDb x.1.2.1 y x.2.1) (enc:=λ(y:Int)=>zay_d0.e ((x.1.1,x.1.2.1,y,x.1.2.2.2),x.2)) (λy=>by kernel_rfl) (λy ki=>by simp only[qDb,-eq_self,sZ];kernel_rfl) x.1.2.2.1
def zay_c:CS:=mkC (qAb (dVC (dCO (dO 0))) (qAb (dVC (dCO dS)) dNil)) (qAb (qBi .str) dNil) (λx y=>zay_s y.1 x.2.1) (λx y r=>.c (.o (.vB r))) λx y r=>[.view .str y.1]
theorem zay_val:qAj Tryd.prog 45 zay_c:=vl1 zay_q [.tmp 4] 18 6 1 (show qA6 zay_L zay_G 1 6 18 [(0,zay_b0)] from⟨zay_sub0,tV⟩) (λf C h=>by cases h) λx y=>by
 simp only[zay_s,-eq_self,sZ];kernel_rfl
def zay_w:CQ:=qDz [(0,none,some (.str,9))] (qCm [false] zay_c)
theorem zay_ok:qAg Tryd.prog 45 zay_w:=qA3 zay_val
def zbe_da:=(qAb (dVC (dCO (dO 0))) (qAb (dVC (dCO dZ)) (qAb (dVC (dCO dB)) (qAb (dVC (dCO dZ)) dNil))))
def zbe_db:=(qAb (qBi .node) dNil)
def zbe_cs(self:(List Eng.Node)->Int->Bool->Int->Option Int):CS:=mkC zbe_da zbe_db (λx y=>self y.1 x.2.1 x.2.2.1 x.2.2.2.1) (λx y r=>.c (.o (.vI r))) λx y r=>[.view .node y.1]
def zbe_ws(self:(List Eng.Node)->Int->Bool->Int->Option Int):CQ:=qDz [(0,none,some (.node,39))] (qCm [false] (zbe_cs self))
def zbe_b0:IQ:=(.loop [0,3,9,12,13,14] (.seq (.seq (rg 58 [oM 55 t14,oP 56 (.faddr 5 t9),oP 57 (.load none t56),oP 58 (.bi .lss t55 t57)]) (.cond t58 .skip (.cn [12] (.exit 0)))) (.seq (.block 1 (.seq (rg 15 [oM 61 t12,oM 15 t61]) (.seq (rg 12 [oM 62 t0,oM 63 t15,oP 64 (.faddr 0 t9),oP 65 (.load none t64),oP 66 (.bi .eql t65 (vI 7)),oM 67 t3,oP 68 (.bi .add t67 (vI 1)),oP 69 (.call 29 [t62,t63,t66,t68]),oM 12 t69]) (.seq (.seq (rg 85 [oM 70 t12,oP 71 (.bi .lss t70 (vI 0)),oM 72 t71,oE 73 (.faddr 0 t9) 72,oE 74 (.load none t73) 72,oE 75 (.bi .eql t74 (vI 7)) 72,oE 76 (.mv t75) 72,oF 77 (.mv t13) 76,oF 78 (.mv t0) 76,oF 79 (.mv t15) 76,oF 80 (.iaddr 6 t78 t79) 76,oF 81 (.faddr 1 t80) 76,oF 82 (.load none t81) 76,oF 83 (.call 45 [t77,t82]) 76,oE 84 (.pick t76 t83 vF) 72,oP 85 (.pick t72 vT t84)]) (.cond t85 (.seq (rg 8 [oP 8 (.mv (.v (.int .i64 (-1))))]) (.cn [8] .ret)) .skip)) (rg 13 [oM 86 t13,oM 87 t0,oM 88 t15,oP 89 (.iaddr 6 t87 t88),oP 90 (.faddr 1 t89),oP 91 (.load none t90),oP 92 (.bslice 9 1 1 [.string ⟨#[]⟩] [(0,t91)]),oP 93 (.append 9 1 16 [.string ⟨#[]⟩] t86 t92),oM 13 t93]))))) (rg 14 [oM 59 t14,oP 60 (.bi .add t59 (vI 1)),oM 14 t60]))))
def zbe_q:IQ:=(.seq (rg 8 [oP 8 (.mv (vI 0))]) (.seq (.seq (rg 19 [oM 16 t1,oM 17 t0,oP 18 (.len t17),oP 19 (.bi .geq t16 t18)]) (.cond t19 (.seq (rg 8 [oP 8 (.mv (.v (.int .i64 (-1))))]) (.cn [8] .ret)) .skip)) (.seq (rg 0 [oM 20 t0,oM 21 t1,oP 22 (.iaddr 6 t20 t21),oP 23 (.load (some 6) t22),oP 9 (.alloc 39 [.int .i64 0,.string ⟨#[]⟩,.string ⟨#[]⟩,.bool false,.int .i64 0,.int .i64 0]),oN (.store 6 t9 t23)]) (.seq (rg 10 [oP 24 (.load (some 6) t9),oP 25 (.call 43 [t24]),oM 10 t25]) (.seq (rg 11 [oP 26 (.faddr 1 t9),oP 27 (.load none t26),oP 28 (.call 44 [t27]),oM 11 t28]) (.seq (.seq (rg 52 [oM 29 t10,oP 30 (.un .not t29),oM 31 t30,oE 32 (.mv t11) 31,oE 33 (.un .not t32) 31,oP 34 (.pick t31 vT t33),oM 35 t34,oE 36 (.mv t2) 35,oE 37 (.un .not t36) 35,oE 38 (.mv t37) 35,oF 39 (.faddr 1 t9) 38,oF 40 (.load none t39) 38,oF 41 (.bi .neq t40 (.v (.string ⟨#[]⟩))) 38,oE 42 (.pick t38 t41 vF) 35,oP 43 (.pick t35 vT t42),oM 44 t43,oE 45 (.faddr 0 t9) 44,oE 46 (.load none t45) 44,oE 47 (.bi .geq t46 (vI 6)) 44,oE 48 (.mv t47) 44,oF 49 (.mv t3) 48,oF 50 (.bi .eql t49 (vI 32)) 48,oE 51 (.pick t48 t50 vF) 44,oP 52 (.pick t44 vT t51)]) (.cond t52 (.seq (rg 8 [oP 8 (.mv (.v (.int .i64 (-1))))]) (.cn [8] .ret)) .skip)) (.seq (rg 12 [oM 53 t1,oP 54 (.bi .add t53 (vI 1)),oM 12 t54]) (.seq (rg 13 [oP 13 (.mv (.v (.slice none 0 0)))]) (.seq (.seq (rg 14 [oP 14 (.mv (vI 0))]) (.block 0 (.canon [(13,none,.str,9)] [0,3,9,12,13,14] (.sub 0 zbe_b0)))) (.seq (rg 8 [oM 94 t12,oM 8 t94]) (.cn [8] .ret)))))))))))
theorem zbe_chk:chk Tryd.prog 29 []=some (zbe_q.erase,[.tmp 8],95):=by kernel_rfl
def qBl(self:(List Eng.Node)->Int->Bool->Int->Option Int)(open_ next i:Int)(v:List Eng.Node)(qFg qFm:Int)(names:List BA):Option ((Int × Int × (List BA)) ⊕ (Int ⊕ Int)) :=
 bif decide (i<qFm) then(gd (qAd (open_+(1:Int)))<|(self v next (decide (qFg=(7:Int))) (open_+(1:Int))).bind λr19 =>gd ((decide (qFg=(7:Int)))=true->(decide (r19<(0:Int)))=false->0<=next/\next<v.length)<|gd ((decide (qFg=(7:Int)))=true->(decide (r19<(0:Int)))=false->next.toNat<v.length)<|gd ((decide (qFg=(7:Int)))=true->(decide (r19<(0:Int)))=false->next.toNat<v.length)<|bif decide (r19<(0:Int)) then(some (.inr (.inl (-1:Int)))) else(bif decide (qFg=(7:Int)) then((zay_s names ((v.getD next.toNat (ET.dft .node)).key)).bind λr20 =>bif r20 then(some (.inr (.inl (-1:Int)))) else(gd (0<=next/\next<v.length)<|gd (next.toNat<v.length)<|gd (next.toNat<v.length)<|gd (names.length+([(v.getD next.toNat (ET.dft .node)).key]:List BA).length<=9223372036854775807/\(names.length+([(v.getD next.toNat (ET.dft .node)).key]:List BA).length)*16<=140737488355328)<|gd (qAd (i+(1:Int)))<|some (.inl (r19,(i+(1:Int)),(names++[(v.getD next.toNat (ET.dft .node)).key]))))) else(gd (0<=next/\next<v.length)<|gd (next.toNat<v.length)<|gd (next.toNat<v.length)<|gd (names.length+([(v.getD next.toNat (ET.dft .node)).key]:List BA).length<=9223372036854775807/\(names.length+([(v.getD next.toNat (ET.dft .node)).key]:List BA).length)*16<=140737488355328)<|gd (qAd (i+(1:Int)))<|some (.inl (r19,(i+(1:Int)),(names++[(v.getD next.toNat (ET.dft .node)).key])))))) else(some (.inr (.inr next)))
def zbe_p0(self:(List Eng.Node)->Int->Bool->Int->Option Int)(open_ next i:Int)(v:List Eng.Node)(qFg qFm:Int)(names:List BA):Option (Int ⊕ Int) :=
 qBa (λx:(Int × Int × (List BA))=>qBl self open_ x.1 x.2.1 v qFg qFm x.2.2) (next,i,names)
def zbe_t(self:(List Eng.Node)->Int->Bool->Int->Option Int)(v:(List Eng.Node))(at_:Int)(object:Bool)(open_:Int):Option Int :=
 bif decide ((v.length:Int)<=at_) then(some (-1:Int)) else(gd (0<=at_/\at_<v.length)<|gd (at_.toNat<v.length)<|(zbc_s (v.getD at_.toNat (ET.dft .node))).bind λr17 =>(zbf_s ((v.getD at_.toNat (ET.dft .node)).key)).bind λr18 =>bif((((!r17) || (!r18)) || ((!object) && (!decide (((v.getD at_.toNat (ET.dft .node)).key)=(⟨#[]⟩:BA))))) || ((decide ((6:Int)<=((v.getD at_.toNat (ET.dft .node)).kind))) && (decide (open_=(32:Int))))) then(some (-1:Int)) else(gd (qAd (at_+(1:Int)))<|(zbe_p0 self open_ (at_+(1:Int)) (0:Int) v ((v.getD at_.toNat (ET.dft .node)).kind) ((v.getD at_.toNat (ET.dft .node)).kids) []).bind λo21=>(Sum.elim (λ(o21_0:Int) =>some o21_0) (λ(o21_1:Int) =>some o21_1)) o21))
def zbe_G(self:(List Eng.Node)->Int->Bool->Int->Option Int):Nat->Option CQ:=tblQ [(43,zbc_w),(44,zbf_w),(29,zbe_ws self),(45,zay_w)]
theorem zbe_Gok(self:(List Eng.Node)->Int->Bool->Int->Option Int)(hself:qAg Tryd.prog 29 (zbe_ws self)):∀f C,(zbe_G self) f=some C->qAg Tryd.prog f C:=qA1 ⟨zbc_ok,zbf_ok,hself,zay_ok,tV⟩
def zbe_d0:=(dQS (qAb (dSO 0 (dO 0)) (qAb (dSO 3 dZ) (qAb (dSO 9 (dH 1 0)) (qAb (dSO 12 dZ) (qAb (dSO 13 (dO 2)) (qAb (dSO 14 dZ) dNil)))))) (qAb (qBi .node) (qAb (dCells 39 (qAb dZ (qAb dS (qAb dS (qAb dB (qAb dZ (qAb dZ dNil))))))) (qAb (dRow .str 9) dNil))))
def zbe_l0(self:(List Eng.Node)->Int->Bool->Int->Option Int):SubQ:=mkL zbe_d0 (λx=>zbe_p0 self x.1.2.1 x.1.2.2.2.1 x.1.2.2.2.2.2.1 x.2.1 x.2.2.1.1 x.2.2.1.2.2.2.2.2.1 x.2.2.2.1) λx r R kn kx kr=>(Sum.elim (λ(r_0:Int)=>kr ⟨[sL 8 (.vI r_0)],[],[.view .node x.2.1]⟩) (λ(r_1:Int)=>kx 0 ⟨[sL 12 (.vI r_1)],[],[.view .node x.2.1]⟩)) r
def zbe_L(self:(List Eng.Node)->Int->Bool->Int->Option Int):Nat->SubQ:=tblL [(0,zbe_l0 self)]
theorem zbe_sub0(self:(List Eng.Node)->Int->Bool->Int->Option Int):qBr (zbe_L self) (zbe_G self) 1 16 95 0 zbe_b0:=qAu (show(zbe_L self) 0=(zbe_l0 self) from by kernel_rfl) λx R kn kx kr=>qAk (step:=λy=>qBl self x.1.2.1 y.1 y.2.1 x.2.1 x.2.2.1.1 x.2.2.1.2.2.2.2.2.1 y.2.2) (enc:=λ(y:Int × Int × (List BA))=>zbe_d0.e ((x.1.1,x.1.2.1,x.1.2.2.1,y.1,x.1.2.2.2.2.1,y.2.1,x.1.2.2.2.2.2.2),(x.2.1,x.2.2.1,y.2.2,x.2.2.2.2))) (λy=>by kernel_rfl) (λy ki=>by simp only[qBl,-eq_self,sZ];kernel_rfl) (x.1.2.2.2.1,x.1.2.2.2.2.2.1,x.2.2.2.1)
theorem zbe_subs(self:(List Eng.Node)->Int->Bool->Int->Option Int):qCr (zbe_L self) (zbe_G self) 1 16 95 zbe_q:=qCs (show qA6 (zbe_L self) (zbe_G self) 1 16 95 [(0,zbe_b0)] from⟨(zbe_sub0 self),tV⟩)
theorem zbe_val_t(self:(List Eng.Node)->Int->Bool->Int->Option Int)(hself:qAg Tryd.prog 29 (zbe_ws self)):qAj Tryd.prog 29 (zbe_cs (zbe_t self)):=val_okC zbe_chk 16 (zbe_Gok self hself) 1 (λx=>Nat.le_of_ble_eq_true rfl) (λy=>rfl) (zbe_subs self) λx y=>by
 simp only[zbe_t,-eq_self,sZ];kernel_rfl
def zbe_n:Nat->(List Eng.Node)->Int->Bool->Int->Option Int
 | 0=>λ_ _ _ _=>none
 | n+1=>zbe_t (zbe_n n)
def zbe_s(v:(List Eng.Node))(at_:Int)(object:Bool)(open_:Int):Option Int:=evt λn=>zbe_n n v at_ object open_
theorem zbe_valn:∀n,qAj Tryd.prog 29 (zbe_cs (zbe_n n))
 | 0=>qAj.zero λargs hp R k=>by
  show((Dec.d zbe_da args).bind λx=>(Dec.d zbe_db hp).bind λy=>none)=none;cases Dec.d zbe_da args with
  | none=>rfl
  | some x=>cases Dec.d zbe_db hp <;> rfl
 | n+1=>zbe_val_t (zbe_n n) (qA3 (zbe_valn n))
theorem zbe_val:qAj Tryd.prog 29 (zbe_cs zbe_s):=qAj.evt zbe_valn (λargs hp R k=>by
  show((Dec.d zbe_da args).bind λx=>(Dec.d zbe_db hp).bind λy=>_)=(((Dec.d zbe_da args).bind λx=>(Dec.d zbe_db hp).bind λy=>_):Option (SV × List SB)).bind _;cases Dec.d zbe_da args with
  | none=>rfl
  | some x =>
   cases Dec.d zbe_db hp with
   | none=>rfl
   | some y=>simp only[obS,Option.bind_assoc]) λargs hp v hp' h=>by
  obtain⟨x,h1,h2⟩:=Option.bind_eq_some_iff.1 h;obtain⟨y,h3,h4⟩:=Option.bind_eq_some_iff.1 h2;obtain⟨r,h5,h6⟩:=Option.bind_eq_some_iff.1 h4;obtain⟨n,h7⟩:=evt_some h5;refine⟨n,?_⟩;show((Dec.d zbe_da args).bind λx=>(Dec.d zbe_db hp).bind λy=>_)=_;rw[h1];simp only[obS];rw[h3];simp only[obS];exact(congrArg (λz=>Option.bind z _) h7).trans h6
def zbe_w:CQ:=zbe_ws zbe_s
theorem zbe_ok:qAg Tryd.prog 29 zbe_w:=qA3 zbe_val
def zax_q:IQ:=(.seq (rg 2 [oP 2 (.mv vF)]) (.seq (rg 2 [oM 3 t0,oP 4 (.len t3),oP 5 (.bi .gtr t4 (vI 0)),oM 6 t5,oF 7 (.mv t0) 6,oF 8 (.call 29 [t7,(vI 0),vF,(vI 0)]) 6,oF 9 (.mv t0) 6,oF 10 (.len t9) 6,oF 11 (.bi .eql t8 t10) 6,oP 12 (.pick t6 t11 vF),oM 2 t12]) (.cn [2] .ret)))
def zax_s(v:(List Eng.Node)):Option Bool :=
 bif decide ((0:Int)<(v.length:Int)) then((zbe_s v (0:Int) false (0:Int)).bind λr1 =>some (decide (r1=(v.length:Int)))) else(some false)
def zax_c:CS:=mkC (qAb (dVC (dCO (dO 0))) dNil) (qAb (qBi .node) dNil) (λx y=>zax_s y.1) (λx y r=>.c (.o (.vB r))) λx y r=>[.view .node y.1]
theorem zax_val:qAj Tryd.prog 14 zax_c:=vl0 zax_q [.tmp 2] 13 3 1 [(29,zbe_w)] ⟨zbe_ok,tV⟩ λx y=>by
 simp only[zax_s,-eq_self,sZ];kernel_rfl
def zax_w:CQ:=qDz [(0,none,some (.node,39))] (qCm [false] zax_c)
theorem zax_ok:qAg Tryd.prog 14 zax_w:=qA3 zax_val
def zat_da:=(qAb (dVC (dCO (dO 0))) (qAb (dVC (dCO dZ)) dNil))
def zat_db:=(qAb (qBi .node) dNil)
def zat_cs(self:(List Eng.Node)->Int->Option Int):CS:=mkC zat_da zat_db (λx y=>self y.1 x.2.1) (λx y r=>.c (.o (.vI r))) λx y r=>[.view .node y.1]
def zat_ws(self:(List Eng.Node)->Int->Option Int):CQ:=qDz [(0,none,some (.node,39))] (qCm [false] (zat_cs self))
def zat_b0:IQ:=(.loop [0,1,5,6] (.seq (.seq (rg 27 [oM 17 t6,oM 18 t0,oM 19 t1,oP 20 (.iaddr 6 t18 t19),oP 21 (.faddr 5 t20),oP 22 (.load none t21),oP 23 (.bi .lss t17 t22),oM 24 t23,oF 25 (.mv t5) 24,oF 26 (.bi .geq t25 (vI 0)) 24,oP 27 (.pick t24 t26 vF)]) (.cond t27 .skip (.cn [5] (.exit 0)))) (.seq (.block 1 (rg 5 [oM 30 t0,oM 31 t5,oP 32 (.call 68 [t30,t31]),oM 5 t32])) (rg 6 [oM 28 t6,oP 29 (.bi .add t28 (vI 1)),oM 6 t29]))))
def zat_q:IQ:=(.seq (rg 4 [oP 4 (.mv (vI 0))]) (.seq (.seq (rg 14 [oM 7 t1,oP 8 (.bi .lss t7 (vI 0)),oM 9 t8,oE 10 (.mv t1) 9,oE 11 (.mv t0) 9,oE 12 (.len t11) 9,oE 13 (.bi .geq t10 t12) 9,oP 14 (.pick t9 vT t13)]) (.cond t14 (.seq (rg 4 [oP 4 (.mv (.v (.int .i64 (-1))))]) (.cn [4] .ret)) .skip)) (.seq (rg 5 [oM 15 t1,oP 16 (.bi .add t15 (vI 1)),oM 5 t16]) (.seq (.seq (rg 6 [oP 6 (.mv (vI 0))]) (.block 0 (.cn [0,1,5,6] (.sub 0 zat_b0)))) (.seq (rg 4 [oM 33 t5,oM 4 t33]) (.cn [4] .ret))))))
theorem zat_chk:chk Tryd.prog 68 []=some (zat_q.erase,[.tmp 4],34):=by kernel_rfl
def qEg(self:(List Eng.Node)->Int->Option Int)(at_ next i:Int)(v:List Eng.Node):Option ((Int × Int) ⊕ Int) :=
 gd (0<=at_/\at_<v.length)<|gd (at_.toNat<v.length)<|gd (at_.toNat<v.length)<|bif((decide (i<((v.getD at_.toNat (ET.dft .node)).kids))) && (decide ((0:Int)<=next))) then((self v next).bind λr3 =>gd (qAd (i+(1:Int)))<|some (.inl (r3,(i+(1:Int))))) else(some (.inr next))
def zat_p0(self:(List Eng.Node)->Int->Option Int)(at_ next i:Int)(v:List Eng.Node):Option Int :=
 qBa (λx:(Int × Int)=>qEg self at_ x.1 x.2 v) (next,i)
def zat_t(self:(List Eng.Node)->Int->Option Int)(v:(List Eng.Node))(at_:Int):Option Int :=
 bif((decide (at_<(0:Int))) || (decide ((v.length:Int)<=at_))) then(some (-1:Int)) else(gd (qAd (at_+(1:Int)))<|(zat_p0 self at_ (at_+(1:Int)) (0:Int) v).bind λo4 =>some o4)
def zat_G(self:(List Eng.Node)->Int->Option Int):Nat->Option CQ:=tblQ [(68,zat_ws self)]
theorem zat_Gok(self:(List Eng.Node)->Int->Option Int)(hself:qAg Tryd.prog 68 (zat_ws self)):∀f C,(zat_G self) f=some C->qAg Tryd.prog f C:=qA1 ⟨hself,tV⟩
def zat_d0:=(dQS (qAb (dSO 0 (dO 0)) (qAb (dSO 1 dZ) (qAb (dSO 5 dZ) (qAb (dSO 6 dZ) dNil)))) (qAb (qBi .node) dNil))
def zat_l0(self:(List Eng.Node)->Int->Option Int):SubQ:=mkL zat_d0 (λx=>zat_p0 self x.1.2.1 x.1.2.2.1 x.1.2.2.2.1 x.2.1) λx r R kn kx kr=>kx 0 ⟨[sL 5 (.vI r)],[],[.view .node x.2.1]⟩
def zat_L(self:(List Eng.Node)->Int->Option Int):Nat->SubQ:=tblL [(0,zat_l0 self)]
theorem zat_sub0(self:(List Eng.Node)->Int->Option Int):qBr (zat_L self) (zat_G self) 1 7 34 0 zat_b0:=qAu (show(zat_L self) 0=(zat_l0 self) from by kernel_rfl) λx R kn kx kr=>qAk (step:=λy=>qEg self x.1.2.1 y.1 y.2 x.2.1) (enc:=λ(y:Int × Int)=>zat_d0.e ((x.1.1,x.1.2.1,y.1,y.2,x.1.2.2.2.2),x.2)) (λy=>by kernel_rfl) (λy ki=>by simp only[qEg,-eq_self,sZ];kernel_rfl) (x.1.2.2.1,x.1.2.2.2.1)
theorem zat_subs(self:(List Eng.Node)->Int->Option Int):qCr (zat_L self) (zat_G self) 1 7 34 zat_q:=qCs (show qA6 (zat_L self) (zat_G self) 1 7 34 [(0,zat_b0)] from⟨(zat_sub0 self),tV⟩)
theorem zat_val_t(self:(List Eng.Node)->Int->Option Int)(hself:qAg Tryd.prog 68 (zat_ws self)):qAj Tryd.prog 68 (zat_cs (zat_t self)):=val_okC zat_chk 7 (zat_Gok self hself) 1 (λx=>Nat.le_of_ble_eq_true rfl) (λy=>rfl) (zat_subs self) λx y=>by
 simp only[zat_t,-eq_self,sZ];kernel_rfl
def zat_n:Nat->(List Eng.Node)->Int->Option Int
 | 0=>λ_ _=>none
 | n+1=>zat_t (zat_n n)
def zat_s(v:(List Eng.Node))(at_:Int):Option Int:=evt λn=>zat_n n v at_
theorem zat_valn:∀n,qAj Tryd.prog 68 (zat_cs (zat_n n))
 | 0=>qAj.zero λargs hp R k=>by
  show((Dec.d zat_da args).bind λx=>(Dec.d zat_db hp).bind λy=>none)=none;cases Dec.d zat_da args with
  | none=>rfl
  | some x=>cases Dec.d zat_db hp <;> rfl
 | n+1=>zat_val_t (zat_n n) (qA3 (zat_valn n))
theorem zat_val:qAj Tryd.prog 68 (zat_cs zat_s):=qAj.evt zat_valn (λargs hp R k=>by
  show((Dec.d zat_da args).bind λx=>(Dec.d zat_db hp).bind λy=>_)=(((Dec.d zat_da args).bind λx=>(Dec.d zat_db hp).bind λy=>_):Option (SV × List SB)).bind _;cases Dec.d zat_da args with
  | none=>rfl
  | some x =>
   cases Dec.d zat_db hp with
   | none=>rfl
   | some y=>simp only[obS,Option.bind_assoc]) λargs hp v hp' h=>by
  obtain⟨x,h1,h2⟩:=Option.bind_eq_some_iff.1 h;obtain⟨y,h3,h4⟩:=Option.bind_eq_some_iff.1 h2;obtain⟨r,h5,h6⟩:=Option.bind_eq_some_iff.1 h4;obtain⟨n,h7⟩:=evt_some h5;refine⟨n,?_⟩;show((Dec.d zat_da args).bind λx=>(Dec.d zat_db hp).bind λy=>_)=_;rw[h1];simp only[obS];rw[h3];simp only[obS];exact(congrArg (λz=>Option.bind z _) h7).trans h6
def zat_w:CQ:=zat_ws zat_s
theorem zat_ok:qAg Tryd.prog 68 zat_w:=qA3 zat_val
def zav_b0:IQ:=(.loop [0,1,5,6,7] (.seq (.seq (rg 35 [oM 19 t7,oM 20 t0,oM 21 t1,oP 22 (.iaddr 6 t20 t21),oP 23 (.faddr 5 t22),oP 24 (.load none t23),oP 25 (.bi .lss t19 t24),oM 26 t25,oF 27 (.mv t6) 26,oF 28 (.bi .geq t27 (vI 0)) 26,oP 29 (.pick t26 t28 vF),oM 30 t29,oF 31 (.mv t6) 30,oF 32 (.mv t0) 30,oF 33 (.len t32) 30,oF 34 (.bi .lss t31 t33) 30,oP 35 (.pick t30 t34 vF)]) (.cond t35 .skip (.cn [5] (.exit 0)))) (.seq (.block 1 (.seq (rg 5 [oM 38 t5,oM 39 t6,oP 40 (.bslice 3 1 1 [.int .i64 0] [(0,t39)]),oP 41 (.append 3 1 8 [.int .i64 0] t38 t40),oM 5 t41]) (rg 6 [oM 42 t0,oM 43 t6,oP 44 (.call 68 [t42,t43]),oM 6 t44]))) (rg 7 [oM 36 t7,oP 37 (.bi .add t36 (vI 1)),oM 7 t37]))))
def zav_q:IQ:=(.seq (rg 4 [oP 4 (.mv (.v (.slice none 0 0)))]) (.seq (rg 5 [oP 5 (.mv (.v (.slice none 0 0)))]) (.seq (.seq (rg 15 [oM 8 t1,oP 9 (.bi .lss t8 (vI 0)),oM 10 t9,oE 11 (.mv t1) 10,oE 12 (.mv t0) 10,oE 13 (.len t12) 10,oE 14 (.bi .geq t11 t13) 10,oP 15 (.pick t10 vT t14)]) (.cond t15 (.seq (rg 4 [oM 16 t5,oM 4 t16]) (.canon [(4,none,.i64,3)] [4] .ret)) .skip)) (.seq (rg 6 [oM 17 t1,oP 18 (.bi .add t17 (vI 1)),oM 6 t18]) (.seq (.seq (rg 7 [oP 7 (.mv (vI 0))]) (.block 0 (.canon [(5,none,.i64,3)] [0,1,5,6,7] (.sub 0 zav_b0)))) (.seq (rg 4 [oM 45 t5,oM 4 t45]) (.canon [(4,none,.i64,3)] [4] .ret)))))))
def qEh(at_ next i:Int)(v:List Eng.Node)(out:List Int):Option ((Int × Int × (List Int)) ⊕ ((List Int))) :=
 gd (0<=at_/\at_<v.length)<|gd (at_.toNat<v.length)<|gd (at_.toNat<v.length)<|bif(((decide (i<((v.getD at_.toNat (ET.dft .node)).kids))) && (decide ((0:Int)<=next))) && (decide (next<(v.length:Int)))) then(gd (out.length+([next]:List Int).length<=9223372036854775807/\(out.length+([next]:List Int).length)*8<=140737488355328)<|(zat_s v next).bind λr5 =>gd (qAd (i+(1:Int)))<|some (.inl (r5,(i+(1:Int)),(out++[next])))) else(some (.inr out))
def zav_p0(at_ next i:Int)(v:List Eng.Node)(out:List Int):Option ((List Int)) :=
 qBa (λx:(Int × Int × (List Int))=>qEh at_ x.1 x.2.1 v x.2.2) (next,i,out)
def zav_s(v:(List Eng.Node))(at_:Int):Option ((List Int)) :=
 bif((decide (at_<(0:Int))) || (decide ((v.length:Int)<=at_))) then(some []) else(gd (qAd (at_+(1:Int)))<|(zav_p0 at_ (at_+(1:Int)) (0:Int) v []).bind λo6 =>some o6)
def zav_G:Nat->Option CQ:=tblQ [(68,zat_w)]
def zav_d0:=(dQS (qAb (dSO 0 (dO 0)) (qAb (dSO 1 dZ) (qAb (dSO 5 (dO 1)) (qAb (dSO 6 dZ) (qAb (dSO 7 dZ) dNil))))) zDJR1)
def zav_l0:SubQ:=mkL zav_d0 (λx=>zav_p0 x.1.2.1 x.1.2.2.2.1 x.1.2.2.2.2.1 x.2.1 x.2.2.1) λx r R kn kx kr=>kx 0 ⟨[sL 5 (.own 1)],[],[.view .node x.2.1,.row .i64 3 r]⟩
def zav_L:Nat->SubQ:=tblL [(0,zav_l0)]
theorem zav_sub0:qBr zav_L zav_G 1 8 46 0 zav_b0:=qAu (show zav_L 0=zav_l0 from by kernel_rfl) λx R kn kx kr=>qAk (step:=λy=>qEh x.1.2.1 y.1 y.2.1 x.2.1 y.2.2) (enc:=λ(y:Int × Int × (List Int))=>zav_d0.e ((x.1.1,x.1.2.1,x.1.2.2.1,y.1,y.2.1,x.1.2.2.2.2.2),(x.2.1,y.2.2,x.2.2.2))) (λy=>by kernel_rfl) (λy ki=>by simp only[qEh,-eq_self,sZ];kernel_rfl) (x.1.2.2.2.1,x.1.2.2.2.2.1,x.2.2.1)
def zav_c:CS:=mkC (qAb (dVC (dCO (dO 0))) (qAb (dVC (dCO dZ)) dNil)) (qAb (qBi .node) dNil) (λx y=>zav_s y.1 x.2.1) (λx y r=>.c (.o (.own 1))) λx y r=>[.view .node y.1,.row .i64 3 r]
theorem zav_val:qAj Tryd.prog 46 zav_c:=vl1 zav_q [.tmp 4] 46 8 1 (show qA6 zav_L zav_G 1 8 46 [(0,zav_b0)] from⟨zav_sub0,tV⟩) (qA1 ⟨zat_ok,tV⟩) λx y=>by
 simp only[zav_s,-eq_self,sZ];kernel_rfl
def zav_w:CQ:=qDz [(0,none,some (.node,39))] (liftQ [false] zav_c)
theorem zav_ok:qAg Tryd.prog 46 zav_w:=prep_loud zav_val
def zaw_b0:IQ:=(.loop [0,2,7,8] (.seq (.seq (rg 31 [oM 28 t8,oM 29 t7,oP 30 (.len t29),oP 31 (.bi .lss t28 t30)]) (.cond t31 .skip (.cn [] (.exit 0)))) (.seq (.block 1 (.seq (rg 43 [oM 34 t0,oM 35 t7,oM 36 t8,oP 37 (.iaddr 1 t35 t36),oP 38 (.load none t37),oP 39 (.iaddr 6 t34 t38),oP 40 (.faddr 1 t39),oP 41 (.load none t40),oM 42 t2,oP 43 (.bi .eql t41 t42)]) (.cond t43 (.seq (rg 6 [oM 44 t7,oM 45 t8,oP 46 (.iaddr 1 t44 t45),oP 47 (.load none t46),oM 6 t47]) (.cn [6] .ret)) .skip))) (rg 8 [oM 32 t8,oP 33 (.bi .add t32 (vI 1)),oM 8 t33]))))
def zaw_q:IQ:=(.seq (rg 6 [oP 6 (.mv (vI 0))]) (.seq (.seq (rg 24 [oM 9 t1,oP 10 (.bi .lss t9 (vI 0)),oM 11 t10,oE 12 (.mv t1) 11,oE 13 (.mv t0) 11,oE 14 (.len t13) 11,oE 15 (.bi .geq t12 t14) 11,oP 16 (.pick t11 vT t15),oM 17 t16,oE 18 (.mv t0) 17,oE 19 (.mv t1) 17,oE 20 (.iaddr 6 t18 t19) 17,oE 21 (.faddr 0 t20) 17,oE 22 (.load none t21) 17,oE 23 (.bi .neq t22 (vI 7)) 17,oP 24 (.pick t17 vT t23)]) (.cond t24 (.seq (rg 6 [oP 6 (.mv (.v (.int .i64 (-1))))]) (.cn [6] .ret)) .skip)) (.seq (rg 7 [oM 25 t0,oM 26 t1,oP 27 (.call 46 [t25,t26]),oM 7 t27]) (.seq (.seq (rg 8 [oP 8 (.mv (vI 0))]) (.block 0 (.cn [0,2,7,8] (.sub 0 zaw_b0)))) (.seq (rg 6 [oP 6 (.mv (.v (.int .i64 (-1))))]) (.cn [6] .ret))))))
def qDa(key:BA)(i:Int)(v:List Eng.Node)(l:List Int):Option (Int ⊕ (Int ⊕ Unit)) :=
 bif decide (i<(l.length:Int)) then(gd (0<=i/\i<l.length)<|gd (i.toNat<l.length)<|gd (0<=(l.getD i.toNat (ET.dft .i64))/\(l.getD i.toNat (ET.dft .i64))<v.length)<|gd ((Int.toNat (l.getD i.toNat (ET.dft .i64)))<v.length)<|gd ((Int.toNat (l.getD i.toNat (ET.dft .i64)))<v.length)<|bif decide (((v.getD (Int.toNat (l.getD i.toNat (ET.dft .i64))) (ET.dft .node)).key)=key) then(gd (0<=i/\i<l.length)<|gd (i.toNat<l.length)<|some (.inr (.inl (l.getD i.toNat (ET.dft .i64))))) else(gd (qAd (i+(1:Int)))<|some (.inl (i+(1:Int))))) else(some (.inr (.inr ())))
def zaw_p0(key:BA)(i:Int)(v:List Eng.Node)(l:List Int):Option (Int ⊕ Unit) :=
 qBa (λx:Int=>qDa key x v l) i
def zaw_s(v:(List Eng.Node))(at_:Int)(key:BA):Option Int :=
 gd (((decide (at_<(0:Int))) || (decide ((v.length:Int)<=at_)))=false->0<=at_/\at_<v.length)<|gd (((decide (at_<(0:Int))) || (decide ((v.length:Int)<=at_)))=false->at_.toNat<v.length)<|gd (((decide (at_<(0:Int))) || (decide ((v.length:Int)<=at_)))=false->at_.toNat<v.length)<|bif(((decide (at_<(0:Int))) || (decide ((v.length:Int)<=at_))) || (!decide (((v.getD at_.toNat (ET.dft .node)).kind)=(7:Int)))) then(some (-1:Int)) else((zav_s v at_).bind λr2 =>(zaw_p0 key (0:Int) v r2).bind λo3=>(Sum.elim (λ(o3_0:Int) =>some o3_0) (λ(o3_1:Unit) =>some (-1:Int))) o3)
def zaw_G:Nat->Option CQ:=tblQ [(46,zav_w)]
def zaw_d0:=(dQS (qAb (dSO 0 (dO 0)) (qAb (dSO 2 dS) (qAb (dSO 7 (dO 1)) (qAb (dSO 8 dZ) dNil)))) zDJR1)
def zaw_l0:SubQ:=mkL zaw_d0 (λx=>zaw_p0 x.1.2.1 x.1.2.2.2.1 x.2.1 x.2.2.1) λx r R kn kx kr=>(Sum.elim (λ(r_0:Int)=>kr ⟨[sL 6 (.vI r_0)],[],[.view .node x.2.1]⟩) (λ(r_1:Unit)=>kx 0 ⟨[],[],[.view .node x.2.1]⟩)) r
def zaw_L:Nat->SubQ:=tblL [(0,zaw_l0)]
theorem zaw_sub0:qBr zaw_L zaw_G 1 9 48 0 zaw_b0:=qAu (show zaw_L 0=zaw_l0 from by kernel_rfl) λx R kn kx kr=>qAk (step:=λy=>qDa x.1.2.1 y x.2.1 x.2.2.1) (enc:=λ(y:Int)=>zaw_d0.e ((x.1.1,x.1.2.1,x.1.2.2.1,y,x.1.2.2.2.2),x.2)) (λy=>by kernel_rfl) (λy ki=>by simp only[qDa,-eq_self,sZ];kernel_rfl) x.1.2.2.2.1
def zaw_c:CS:=mkC (qAb (dVC (dCO (dO 0))) (qAb (dVC (dCO dZ)) (qAb (dVC (dCO dS)) dNil))) (qAb (qBi .node) dNil) (λx y=>zaw_s y.1 x.2.1 x.2.2.1) (λx y r=>.c (.o (.vI r))) λx y r=>[.view .node y.1]
theorem zaw_val:qAj Tryd.prog 31 zaw_c:=vl1 zaw_q [.tmp 6] 48 9 1 (show qA6 zaw_L zaw_G 1 9 48 [(0,zaw_b0)] from⟨zaw_sub0,tV⟩) (qA1 ⟨zav_ok,tV⟩) λx y=>by
 simp only[zaw_s,-eq_self,sZ];kernel_rfl
def zaw_w:CQ:=qDz [(0,none,some (.node,39))] (qCm [false] zaw_c)
theorem zaw_ok:qAg Tryd.prog 31 zaw_w:=qA3 zaw_val
def zaa_b0:IQ:=(.loop [0,1,5] (.seq (.seq (rg 21 [oM 14 t5,oP 15 (.bi .gtr t14 (vI 0)),oM 16 t15,oF 17 (.mv t1) 16,oF 18 (.mv t0) 16,oF 19 (.len t18) 16,oF 20 (.bi .lss t17 t19) 16,oP 21 (.pick t16 t20 vF)]) (.cond t21 .skip (.cn [1] (.exit 0)))) (.seq (.block 1 (rg 5 [oM 24 t5,oM 25 t0,oM 26 t1,oP 27 (.iaddr 6 t25 t26),oP 28 (.faddr 5 t27),oP 29 (.load none t28),oP 30 (.bin true .sub t29 (vI 1)),oP 31 (.bin true .add t24 t30),oM 5 t31])) (rg 1 [oM 22 t1,oP 23 (.bi .add t22 (vI 1)),oM 1 t23]))))
def zaa_q:IQ:=(.seq (rg 4 [oP 4 (.mv (vI 0))]) (.seq (.seq (rg 13 [oM 6 t1,oP 7 (.bi .lss t6 (vI 0)),oM 8 t7,oE 9 (.mv t1) 8,oE 10 (.mv t0) 8,oE 11 (.len t10) 8,oE 12 (.bi .geq t9 t11) 8,oP 13 (.pick t8 vT t12)]) (.cond t13 (.seq (rg 4 [oP 4 (.mv (.v (.int .i64 (-1))))]) (.cn [4] .ret)) .skip)) (.seq (.seq (rg 5 [oP 5 (.mv (vI 1))]) (.block 0 (.cn [0,1,5] (.sub 0 zaa_b0)))) (.seq (rg 4 [oM 32 t1,oM 4 t32]) (.cn [4] .ret)))))
def qC3(at_ left:Int)(v:List Eng.Node):Option ((Int × Int) ⊕ Int) :=
 bif((decide ((0:Int)<left)) && (decide (at_<(v.length:Int)))) then(gd (0<=at_/\at_<v.length)<|gd (at_.toNat<v.length)<|gd (at_.toNat<v.length)<|gd (qAd (at_+(1:Int)))<|some (.inl ((at_+(1:Int)),w64 (left+(w64 (((v.getD at_.toNat (ET.dft .node)).kids) - (1:Int))))))) else(some (.inr at_))
def zaa_p0(at_ left:Int)(v:List Eng.Node):Option Int :=
 qBa (λx:(Int × Int)=>qC3 x.1 x.2 v) (at_,left)
def zaa_s(v:(List Eng.Node))(at_:Int):Option Int :=
 bif((decide (at_<(0:Int))) || (decide ((v.length:Int)<=at_))) then(some (-1:Int)) else((zaa_p0 at_ (1:Int) v).bind λo1 =>some o1)
def zaa_G:Nat->Option CQ:=tblQ []
def zaa_d0:=(dQS (qAb (dSO 0 (dO 0)) (qAb (dSO 1 dZ) (qAb (dSO 5 dZ) dNil))) (qAb (qBi .node) dNil))
def zaa_l0:SubQ:=mkL zaa_d0 (λx=>zaa_p0 x.1.2.1 x.1.2.2.1 x.2.1) λx r R kn kx kr=>kx 0 ⟨[sL 1 (.vI r)],[],[.view .node x.2.1]⟩
def zaa_L:Nat->SubQ:=tblL [(0,zaa_l0)]
theorem zaa_sub0:qBr zaa_L zaa_G 1 6 33 0 zaa_b0:=qAu (show zaa_L 0=zaa_l0 from by kernel_rfl) λx R kn kx kr=>qAk (step:=λy=>qC3 y.1 y.2 x.2.1) (enc:=λ(y:Int × Int)=>zaa_d0.e ((x.1.1,y.1,y.2,x.1.2.2.2),x.2)) (λy=>by kernel_rfl) (λy ki=>by simp only[qC3,-eq_self,sZ];kernel_rfl) (x.1.2.1,x.1.2.2.1)
def zaa_c:CS:=mkC (qAb (dVC (dCO (dO 0))) (qAb (dVC (dCO dZ)) dNil)) (qAb (qBi .node) dNil) (λx y=>zaa_s y.1 x.2.1) (λx y r=>.c (.o (.vI r))) λx y r=>[.view .node y.1]
theorem zaa_val:qAj Tryd.prog 63 zaa_c:=vl1 zaa_q [.tmp 4] 33 6 1 (raws:=[30,31]) (show qA6 zaa_L zaa_G 1 6 33 [(0,zaa_b0)] from⟨zaa_sub0,tV⟩) (λf C h=>by cases h) λx y=>by
 simp only[zaa_s,-eq_self,sZ];kernel_rfl
def zaa_w:CQ:=qDz [(0,none,some (.node,39))] (qCm [false] zaa_c)
theorem zaa_ok:qAg Tryd.prog 63 zaa_w:=qA3 zaa_val
def zab_b0:IQ:=(.loop [0,1,2,7,8] (.seq (.seq (rg 43 [oM 27 t8,oM 28 t0,oM 29 t1,oP 30 (.iaddr 6 t28 t29),oP 31 (.faddr 5 t30),oP 32 (.load none t31),oP 33 (.bi .lss t27 t32),oM 34 t33,oF 35 (.mv t7) 34,oF 36 (.bi .geq t35 (vI 0)) 34,oP 37 (.pick t34 t36 vF),oM 38 t37,oF 39 (.mv t7) 38,oF 40 (.mv t0) 38,oF 41 (.len t40) 38,oF 42 (.bi .lss t39 t41) 38,oP 43 (.pick t38 t42 vF)]) (.cond t43 .skip (.cn [] (.exit 0)))) (.seq (.block 1 (.seq (.seq (rg 52 [oM 46 t0,oM 47 t7,oP 48 (.iaddr 6 t46 t47),oP 49 (.faddr 1 t48),oP 50 (.load none t49),oM 51 t2,oP 52 (.bi .eql t50 t51)]) (.cond t52 (.seq (rg 6 [oM 53 t7,oM 6 t53]) (.cn [6] .ret)) .skip)) (rg 7 [oM 54 t0,oM 55 t7,oP 56 (.call 63 [t54,t55]),oM 7 t56]))) (rg 8 [oM 44 t8,oP 45 (.bi .add t44 (vI 1)),oM 8 t45]))))
def zab_q:IQ:=(.seq (rg 6 [oP 6 (.mv (vI 0))]) (.seq (.seq (rg 24 [oM 9 t1,oP 10 (.bi .lss t9 (vI 0)),oM 11 t10,oE 12 (.mv t1) 11,oE 13 (.mv t0) 11,oE 14 (.len t13) 11,oE 15 (.bi .geq t12 t14) 11,oP 16 (.pick t11 vT t15),oM 17 t16,oE 18 (.mv t0) 17,oE 19 (.mv t1) 17,oE 20 (.iaddr 6 t18 t19) 17,oE 21 (.faddr 0 t20) 17,oE 22 (.load none t21) 17,oE 23 (.bi .neq t22 (vI 7)) 17,oP 24 (.pick t17 vT t23)]) (.cond t24 (.seq (rg 6 [oP 6 (.mv (.v (.int .i64 (-1))))]) (.cn [6] .ret)) .skip)) (.seq (rg 7 [oM 25 t1,oP 26 (.bi .add t25 (vI 1)),oM 7 t26]) (.seq (.seq (rg 8 [oP 8 (.mv (vI 0))]) (.block 0 (.cn [0,1,2,7,8] (.sub 0 zab_b0)))) (.seq (rg 6 [oP 6 (.mv (.v (.int .i64 (-1))))]) (.cn [6] .ret))))))
def qBk(at_:Int)(key:BA)(next i:Int)(v:List Eng.Node):Option ((Int × Int) ⊕ (Int ⊕ Unit)) :=
 gd (0<=at_/\at_<v.length)<|gd (at_.toNat<v.length)<|gd (at_.toNat<v.length)<|bif(((decide (i<((v.getD at_.toNat (ET.dft .node)).kids))) && (decide ((0:Int)<=next))) && (decide (next<(v.length:Int)))) then(gd (0<=next/\next<v.length)<|gd (next.toNat<v.length)<|gd (next.toNat<v.length)<|bif decide (((v.getD next.toNat (ET.dft .node)).key)=key) then(some (.inr (.inl next))) else((zaa_s v next).bind λr3 =>gd (qAd (i+(1:Int)))<|some (.inl (r3,(i+(1:Int)))))) else(some (.inr (.inr ())))
def zab_p0(at_:Int)(key:BA)(next i:Int)(v:List Eng.Node):Option (Int ⊕ Unit) :=
 qBa (λx:(Int × Int)=>qBk at_ key x.1 x.2 v) (next,i)
def zab_s(v:(List Eng.Node))(at_:Int)(key:BA):Option Int :=
 gd (((decide (at_<(0:Int))) || (decide ((v.length:Int)<=at_)))=false->0<=at_/\at_<v.length)<|gd (((decide (at_<(0:Int))) || (decide ((v.length:Int)<=at_)))=false->at_.toNat<v.length)<|gd (((decide (at_<(0:Int))) || (decide ((v.length:Int)<=at_)))=false->at_.toNat<v.length)<|bif(((decide (at_<(0:Int))) || (decide ((v.length:Int)<=at_))) || (!decide (((v.getD at_.toNat (ET.dft .node)).kind)=(7:Int)))) then(some (-1:Int)) else(gd (qAd (at_+(1:Int)))<|(zab_p0 at_ key (at_+(1:Int)) (0:Int) v).bind λo4=>(Sum.elim (λ(o4_0:Int) =>some o4_0) (λ(o4_1:Unit) =>some (-1:Int))) o4)
def zab_G:Nat->Option CQ:=tblQ [(63,zaa_w)]
def zab_d0:=(dQS (qAb (dSO 0 (dO 0)) (qAb (dSO 1 dZ) (qAb (dSO 2 dS) (qAb (dSO 7 dZ) (qAb (dSO 8 dZ) dNil))))) (qAb (qBi .node) dNil))
def zab_l0:SubQ:=mkL zab_d0 (λx=>zab_p0 x.1.2.1 x.1.2.2.1 x.1.2.2.2.1 x.1.2.2.2.2.1 x.2.1) λx r R kn kx kr=>(Sum.elim (λ(r_0:Int)=>kr ⟨[sL 6 (.vI r_0)],[],[.view .node x.2.1]⟩) (λ(r_1:Unit)=>kx 0 ⟨[],[],[.view .node x.2.1]⟩)) r
def zab_L:Nat->SubQ:=tblL [(0,zab_l0)]
theorem zab_sub0:qBr zab_L zab_G 1 9 57 0 zab_b0:=qAu (show zab_L 0=zab_l0 from by kernel_rfl) λx R kn kx kr=>qAk (step:=λy=>qBk x.1.2.1 x.1.2.2.1 y.1 y.2 x.2.1) (enc:=λ(y:Int × Int)=>zab_d0.e ((x.1.1,x.1.2.1,x.1.2.2.1,y.1,y.2,x.1.2.2.2.2.2),x.2)) (λy=>by kernel_rfl) (λy ki=>by simp only[qBk,-eq_self,sZ];kernel_rfl) (x.1.2.2.2.1,x.1.2.2.2.2.1)
def zab_c:CS:=mkC (qAb (dVC (dCO (dO 0))) (qAb (dVC (dCO dZ)) (qAb (dVC (dCO dS)) dNil))) (qAb (qBi .node) dNil) (λx y=>zab_s y.1 x.2.1 x.2.2.1) (λx y r=>.c (.o (.vI r))) λx y r=>[.view .node y.1]
theorem zab_val:qAj Tryd.prog 40 zab_c:=vl1 zab_q [.tmp 6] 57 9 1 (show qA6 zab_L zab_G 1 9 57 [(0,zab_b0)] from⟨zab_sub0,tV⟩) (qA1 ⟨zaa_ok,tV⟩) λx y=>by
 simp only[zab_s,-eq_self,sZ];kernel_rfl
def zab_w:CQ:=qDz [(0,none,some (.node,39))] (qCm [false] zab_c)
theorem zab_ok:qAg Tryd.prog 40 zab_w:=qA3 zab_val
end
theorem nd_get{v:List Eng.Node}{a:Nat}{n:Eng.Node}(h:v[a]?=some n):v.getD a (ET.dft .node)=n:=by
 rw[List.getD_eq_getElem?_getD,h];rfl
theorem nd_some{v:List Eng.Node}{a:Nat}(h:a<v.length):∃n,v[a]?=some n/\n∈v/\v.getD a (ET.dft .node)=n :=
 ⟨v[a],List.getElem?_eq_getElem h,List.getElem_mem h,nd_get (List.getElem?_eq_getElem h)⟩
structure OkN (n:Eng.Node):Prop where
 key:n.key.size<=3000000
 text:n.text.size<=3000000
 kids:qAd n.kids
def OkL(v:List Eng.Node):Prop:=v.length<=2000000/\∀n∈v,OkN n
theorem read_text(s:BA):(qAn s).text.size<=s.size:=by
 unfold qAn readS;split
 ·exact Nat.zero_le _
 ·split
  ·simp only[ByteArray.size_extract];omega
  ·split
   ·simp only[ByteArray.size_extract];omega
   ·split
    ·simp only[ByteArray.size_extract];omega
    ·simp only[ByteArray.size_extract];omega
theorem tdiv_low(x:Int)(h1 : -9223372036854775808<=x)(h2:x<=0):x<=10*Int.tdiv x 10/\Int.tdiv x 10<=0:=by
 have h3:Int.tdiv x 10 = -((-x) / 10):=by
  conv=>lhs;rw[show x = -(-x) by omega,Int.neg_tdiv]
  rw[Int.tdiv_eq_ediv_of_nonneg (by omega)]
 rw[h3];omega
theorem whole_loop(t:BA)(hs:t.size<=3000000):∀(j i:Nat) (v:Int),i+j=t.size -> -9223372036854775808<=v/\v<=0->∃y,zaq_p0 v (i:Int) t=some y/\∀u,y=.inr u -> -9223372036854775808<=u/\u<=0
 | 0,i,v,h,hv=>by
  refine⟨.inr v,?_,λu hu=>by cases hu;exact hv⟩;unfold zaq_p0;refine qAf ?_;unfold qC7;dsimp only;rw[deF (by omega),cnF]
 | j+1,i,v,h,hv=>by
  obtain⟨d,hd⟩:∃d,d=(bAt t i - 48) % 256:=⟨_,rfl⟩;have hd2:0<=d/\d<256:=by omega
  obtain⟨l1,l2⟩:=tdiv_low (-9223372036854775808+d) (by omega) (by omega);have l3 : -9223372036854775808<=Int.tdiv (-9223372036854775808+d) 10:=by omega
  have step:qC7 v (i:Int) t=if v<Int.tdiv (-9223372036854775808+d) 10 then some (.inr (.inl (0,false))) else some (.inl (10*v - d,((i+1:Nat):Int))):=by
   unfold qC7;rw[<-hd,deT (by omega),cnT];refine(qAa (by omega) _).trans ?_;refine(qAa (by unfold qAd;omega) _).trans ?_;refine(qAa (by unfold qAd;omega) _).trans ?_;refine(qAa ⟨by decide,by unfold qAd;omega⟩ _).trans ?_;by_cases hl:v<Int.tdiv (-9223372036854775808+d) 10
   ·rw[deT hl,cnT,if_pos hl]
   ·rw[deF hl,cnF,if_neg hl];refine(qAa (by unfold qAd;omega) _).trans ?_;refine(qAa (by unfold qAd;omega) _).trans ?_;exact qAa (by unfold qAd;omega) _
  by_cases hl:v<Int.tdiv (-9223372036854775808+d) 10
  ·rw[if_pos hl] at step;refine⟨.inl (0,false),?_,λu hu=>by cases hu⟩;unfold zaq_p0;exact qAf step
  ·rw[if_neg hl] at step;obtain⟨y,h1,h2⟩:=whole_loop t hs j (i+1) (10*v - d) (by omega) (by omega);refine⟨y,?_,h2⟩;unfold zaq_p0 at h1 ⊢;rw[qAo step];exact h1
theorem whole_total(s:BA)(hs:s.size<=3000000):∃r,zaq_s s=some r:=by
 have hx:=p_Read s (by omega);have hz:=read_text s;obtain⟨y,hy,hy2⟩:=whole_loop (qAn s).text (by omega) (qAn s).text.size 0 0 (by omega) (by omega);unfold zaq_s;rw[hx,obS];cases hc:((!qD9 s) || (!(rnum (qAn s)).plain)) with
 | true=>exact⟨_,by rw[cnT]⟩
 | false =>
  rw[cnF];have hy':zaq_p0 0 0 (rnum (qAn s)).text=some y:=hy;dsimp only;rw[hy',obS];cases y with
  | inl z=>exact⟨_,rfl⟩
  | inr u =>
   have:=hy2 u rfl;dsimp only [Sum.elim_inr];cases (rnum (qAn s)).minus with
   | true=>exact⟨_,rfl⟩
   | false =>
    rw[cnF];by_cases h0:u = -9223372036854775808
    ·rw[deT h0,cnT];exact⟨_,rfl⟩
    ·rw[deF h0,cnF];exact⟨_,qAa (by unfold qAd;omega) _⟩
theorem valid_total(s:BA)(hs:s.size<=3000000):∃r,zap_s s=some r:=by
 unfold zap_s;rw[p_Read s (by omega)];exact⟨_,rfl⟩
theorem cond_ex{U:Type}{c:Bool}{a b:Option U}{P:U->Prop}(h1:∃x,a=some x/\P x)(h2:∃x,b=some x/\P x):∃x,(bif c then a else b)=some x/\P x:=by
 cases c
 ·exact h2
 ·exact h1
theorem bounds_some(c:Int):∃x,zaz_s c=some x/\x.1<=3:=by
 have k:∀a b d:Int,a<=3->∃x,(some (a,b,d):Option (Int × Int × Int))=some x/\x.1<=3:=λa b d h=>⟨_,rfl,h⟩
 unfold zaz_s;exact cond_ex (k _ _ _ (by decide)) (cond_ex (k _ _ _ (by decide)) (cond_ex (k _ _ _ (by decide)) (cond_ex (k _ _ _ (by decide)) (cond_ex (k _ _ _ (by decide)) (cond_ex (k _ _ _ (by decide)) (cond_ex (k _ _ _ (by decide)) (k _ _ _ (by decide))))))))
theorem bAt_byte(t:BA)(i:Int) : -1<=bAt t i/\bAt t i<=255:=by
 unfold bAt;split
 ·split
  ·rename_i b _;have:=b.toNat_lt;omega
  ·omega
 ·omega
theorem byteAt_some(t:BA)(at_:Int)(h0:0<=at_):zba_s t at_=some (if(t.size:Int)<=at_ then -1 else bAt t at_)/\(0<=(if(t.size:Int)<=at_ then -1 else bAt t at_)->at_<t.size):=by
 have:=bAt_byte t at_;unfold zba_s;by_cases h:(t.size:Int)<=at_
 ·rw[deT h,cnT,if_pos h];exact⟨rfl,λh=>by omega⟩
 ·rw[deF h,cnF,if_neg h];refine⟨(qAa (by omega) _).trans (qAa (by unfold qAd;omega) _),λ_=>by omega⟩
theorem seq_loop(t:BA)(a:Nat)(n:Int)(hn:n<=3)(ha:a<=t.size)(hs:t.size<=3000000):∀(j:Nat) (i:Int) (lo hi:Int),1<=i->n+1 - i<=j->a+i<=t.size->∃y,zbd_p0 t (a:Int) n lo hi i=some y/\((∃z,y=.inl z/\z.2.2.1≠0)\/(y=.inr ()/\a+n+1<=max (t.size:Int) (a+i)))
 | 0,i,lo,hi,h1,h2,h3=>by
  refine⟨.inr (),?_,.inr ⟨rfl,by omega⟩⟩;unfold zbd_p0;refine qAf ?_;unfold qCd;dsimp only;rw[deF (by omega),cnF]
 | j+1,i,lo,hi,h1,h2,h3=>by
  by_cases hin:i<=n
  ·obtain⟨b1,b2⟩:=byteAt_some t (a+i) (by omega);generalize hc:(if(t.size:Int)<=a+i then(-1:Int) else bAt t (a+i))=c at b1 b2
   have step:qCd t (a:Int) n lo hi i=if c<0 then some (.inr (.inl (0,⟨#[]⟩,31,(t.size:Int),[]))) else bif(decide (c<lo) || decide (hi<c)) then some (.inr (.inl (0,⟨#[]⟩,32,(a:Int),[]))) else some (.inl (128,191,i+1)):=by
    unfold qCd;rw[deT hin,cnT];refine(qAa (by unfold qAd;omega) _).trans ?_;rw[b1,obS];by_cases h:c<0
    ·rw[deT h,cnT,if_pos h];rfl
    ·rw[deF h,cnF,if_neg h];cases (decide (c<lo) || decide (hi<c)) with
     | true=>rfl
     | false=>exact qAa (by unfold qAd;omega) _
   by_cases h:c<0
   ·rw[if_pos h] at step;refine⟨.inl (0,⟨#[]⟩,31,(t.size:Int),[]),?_,.inl ⟨_,rfl,show(31:Int)≠0 by decide⟩⟩;unfold zbd_p0;exact qAf step
   ·rw[if_neg h] at step;cases hb:(decide (c<lo) || decide (hi<c)) with
    | true =>
     rw[hb] at step;refine⟨.inl (0,⟨#[]⟩,32,(a:Int),[]),?_,.inl ⟨_,rfl,show(32:Int)≠0 by decide⟩⟩;unfold zbd_p0;exact qAf step
    | false =>
     rw[hb] at step;have hlt:=b2 (by omega);obtain⟨y,g1,g2⟩:=seq_loop t a n hn ha hs j (i+1) 128 191 (by omega) (by omega) (by omega);refine⟨y,?_,?_⟩
     ·unfold zbd_p0 at g1 ⊢;rw[qAo step];exact g1
     ·rcases g2 with g2 | ⟨g2,g3⟩
      ·exact .inl g2
      ·exact .inr ⟨g2,by omega⟩
  ·refine⟨.inr (),?_,.inr ⟨rfl,by omega⟩⟩;unfold zbd_p0;refine qAf ?_;unfold qCd;dsimp only;rw[deF hin,cnF]
theorem seq_some(t:BA)(a:Nat)(ha:a<t.size)(hs:t.size<=3000000):∃g,zbd_s t (a:Int)=some g/\(g.code=0->∃b:Nat,g.at_=b/\a<b/\b<=t.size):=by
 obtain⟨x,h1,h2⟩:=bounds_some (bAt t a);have hb:=bAt_byte t a;unfold zbd_s;rw[qAa (by omega),qAa (by unfold qAd;omega),h1,obS];by_cases hn:x.1<0
 ·rw[deT hn,cnT];exact⟨_,rfl,λh=>by cases h⟩
 ·rw[deF hn,cnF];obtain⟨y,g1,g2⟩:=seq_loop t a x.1 h2 (by omega) hs 3 1 x.2.1 x.2.2 (by omega) (by omega) (by omega);rw[g1,obS];rcases g2 with⟨z,rfl,hz⟩ | ⟨rfl,hz⟩
  ·exact⟨_,rfl,λh=>(hz h).elim⟩
  ·have hle:(a:Int)+x.1+1<=t.size:=by omega
   refine⟨⟨((a:Int)+x.1+1),[],t.extract (Int.toNat (a:Int)) (Int.toNat ((a:Int)+x.1+1)),0,0⟩,?_,λ_=>⟨((a:Int)+x.1+1).toNat,?_,by omega,by omega⟩⟩
   ·exact(qAa (by unfold qAd;omega) _).trans ((qAa (by unfold qAd;omega) _).trans ((qAa (by unfold qAd;omega) _).trans ((qAa (by unfold qAd;omega) _).trans (qAa (by omega) _))))
   ·show(a:Int)+x.1+1=_;omega
theorem utf_loop(s:BA)(hs:s.size<=3000000):∀(j a:Nat),s.size - a<=j->a<=s.size->∃y,zbf_p0 s (a:Int)=some y
 | 0,a,h1,h2=>by
  refine⟨.inr (),?_⟩;unfold zbf_p0;refine qAf ?_;unfold qCe;rw[deF (by omega),cnF]
 | j+1,a,h1,h2=>by
  by_cases hlt:a<s.size
  ·have hstep:∃y,qCe s (a:Int)=some y/\((∃z,y=.inr z)\/∃b:Nat,y=.inl (b:Int)/\a<b/\b<=s.size):=by
    unfold qCe;rw[deT (by omega),cnT,qAa (by omega)];by_cases hc:bAt s a<128
    ·rw[deT hc,cnT];exact⟨_,qAa (by unfold qAd;omega) _,.inr ⟨a+1,rfl,by omega,by omega⟩⟩
    ·rw[deF hc,cnF];obtain⟨g,g1,g2⟩:=seq_some s a hlt hs;rw[g1,obS];by_cases h0:g.code=0
     ·rw[deT h0,Bool.not_true,cnF];obtain⟨b,e1,e2,e3⟩:=g2 h0;exact⟨_,rfl,.inr ⟨b,by rw[e1],e2,e3⟩⟩
     ·rw[deF h0,Bool.not_false,cnT];exact⟨_,rfl,.inl ⟨_,rfl⟩⟩
   obtain⟨y,h3,h4⟩:=hstep;rcases h4 with⟨z,rfl⟩ | ⟨b,rfl,h5,h6⟩
   ·refine⟨z,?_⟩;unfold zbf_p0;exact qAf h3
   ·obtain⟨y,h7⟩:=utf_loop s hs j b (by omega) h6;refine⟨y,?_⟩;unfold zbf_p0 at h7 ⊢;rw[qAo h3];exact h7
  ·refine⟨.inr (),?_⟩;unfold zbf_p0;refine qAf ?_;unfold qCe;rw[deF (by omega),cnF]
theorem utf_total(s:BA)(hs:s.size<=3000000):∃b,zbf_s s=some b:=by
 obtain⟨y,hy⟩:=utf_loop s hs s.size 0 (by omega) (by omega);unfold zbf_s;rw[show((0:Nat):Int)=0 from rfl] at hy;rw[hy,obS];cases y <;> exact⟨_,rfl⟩
theorem plain_total(n:Eng.Node)(hn:OkN n):∃b,zbc_s n=some b/\(b=true->0<=n.kids/\(0<n.kids->6<=n.kind)):=by
 obtain⟨w,hw⟩:=whole_total n.text hn.text;obtain⟨u,hu⟩:=valid_total n.text hn.text;obtain⟨x,hx⟩:=utf_total n.text hn.text;unfold zbc_s;cases hc:(((decide (n.kind<1) || decide (7<n.kind)) || decide (n.kids<0)) || (decide (0<n.kids) && decide (n.kind<6))) with
 | true=>exact⟨false,by rw[cnT],λh=>by cases h⟩
 | false =>
  rw[cnF,hw,obS,hu,obS,hx,obS];have hk:0<=n.kids/\(0<n.kids->6<=n.kind):=by
   simp only[Bool.or_eq_false_iff,Bool.and_eq_false_iff,decide_eq_false_iff_not] at hc;omega
  have go:∀o:Option Bool,(∃b,o=some b)->∃b,o=some b/\(b=true->0<=n.kids/\(0<n.kids->6<=n.kind)):=λo ⟨b,h⟩=>⟨b,h,λ_=>hk⟩
  refine go _ ?_;cases decide (n.kind=4) with
  | true=>exact⟨_,rfl⟩
  | false =>
   rw[cnF];cases (n.whole || !decide (n.int=0)) with
   | true=>exact⟨_,rfl⟩
   | false =>
    rw[cnF];cases decide (n.kind=5) <;> exact⟨_,rfl⟩
theorem among_loop(s:BA)(l:List BA)(hl:l.length<=2000000):∀(j i:Nat),i+j=l.length->∃y,zay_p0 s (i:Int) l=some y
 | 0,i,h=>by
  refine⟨.inr (),?_⟩;unfold zay_p0;refine qAf ?_;unfold qDb;rw[deF (by omega),cnF]
 | j+1,i,h=>by
  cases hd:decide (l.getD i (ET.dft .str)=s) with
  | true =>
   refine⟨.inl true,?_⟩;unfold zay_p0;refine qAf ?_;unfold qDb;rw[deT (by omega),cnT,qAa (by omega),qAa (by omega),Int.toNat_natCast,hd,cnT]
  | false =>
   obtain⟨y,hy⟩:=among_loop s l hl j (i+1) (by omega);refine⟨y,?_⟩;unfold zay_p0 at hy ⊢;rw[qAo (y:=((i+1:Nat):Int)) ?_]
   ·exact hy
   ·unfold qDb;rw[deT (by omega),cnT,qAa (by omega),qAa (by omega),Int.toNat_natCast,hd,cnF];exact qAa (by unfold qAd;omega) _
theorem among_total(l:List BA)(hl:l.length<=2000000)(s:BA):∃b,zay_s l s=some b:=by
 obtain⟨y,hy⟩:=among_loop s l hl l.length 0 (by omega);unfold zay_s;rw[show((0:Nat):Int)=0 from rfl] at hy;rw[hy,obS];cases y <;> exact⟨_,rfl⟩
def Told(v:List Eng.Node)(a:Nat)(r:Int):Prop:=r = -1\/∃e:Nat,r=e/\Tree v a e
theorem Told.lt{v:List Eng.Node}{a:Nat}{r:Int}(h:Told v a r)(h0:¬r<0):∃e:Nat,r=e/\Tree v a e/\a<e/\e<=v.length/\a<v.length:=by
 rcases h with h | ⟨e,h1,h2⟩
 ·omega
 ·have:=Trees.le h2;exact⟨e,h1,h2,by omega,this.2,by omega⟩
theorem take_loop{v:List Eng.Node}(hv:OkL v){a:Nat}{open_:Int}(ho:0<=open_/\open_<=32)(kd:Int){kids:Nat}(hk:(kids:Int)<=9223372036854775807)
  (ans:Nat->Bool->Int) (hans:∀(b:Nat) (obj:Bool),a<b->0<kids->Told v b (ans b obj)) :
  ∀(m next i:Nat) (names:List BA),v.length - next<=m->a<next->next<=v.length->names.length=i->i<=kids->Trees v i (a+1) next ->
   ∃y,(∀self:List Eng.Node->Int->Bool->Int->Option Int,(∀(b:Nat) (obj:Bool),a<b->0<kids->self v (b:Int) obj (open_+1)=some (ans b obj))->zbe_p0 self open_ (next:Int) (i:Int) v kd (kids:Int) names=some y)/\((y=.inl (-1))\/∃e:Nat,y=.inr (e:Int)/\Trees v kids (a+1) e):=by
 intro m;induction m with
 | zero =>
  intro next i names h1 h2 h3 h4 h5 h6;have hlen:=hv.1;by_cases hik:i<kids
  ·have r2:=hans next (decide (kd=7)) h2 (by omega);generalize hrr:ans next (decide (kd=7))=r at r2
   have hr:r<0:=by
    by_cases h0:r<0
    ·exact h0
    ·obtain⟨e,_,_,_,_,h⟩:=r2.lt h0;omega
   refine⟨.inl (-1),λself hself=>?_,.inl rfl⟩;have r1:=hself next (decide (kd=7)) h2 (by omega);rw[hrr] at r1;unfold zbe_p0;refine qAf ?_;unfold qBl;dsimp only;rw[deT (by omega),cnT,qAa (by unfold qAd;omega),r1,obS,deT hr];rw[qAa (λ_ h=>by cases h),qAa (λ_ h=>by cases h),qAa (λ_ h=>by cases h),cnT]
  ·have:i=kids:=by omega
   subst this;refine⟨.inr (next:Int),λself hself=>?_,.inr ⟨next,rfl,h6⟩⟩;unfold zbe_p0;refine qAf ?_;unfold qBl;dsimp only;rw[deF (by omega),cnF]
 | succ m ih =>
  intro next i names h1 h2 h3 h4 h5 h6;have hlen:=hv.1;by_cases hik:i<kids
  ·have r2:=hans next (decide (kd=7)) h2 (by omega);generalize hrr:ans next (decide (kd=7))=r at r2
   by_cases hr:r<0
   ·refine⟨.inl (-1),λself hself=>?_,.inl rfl⟩;have r1:=hself next (decide (kd=7)) h2 (by omega);rw[hrr] at r1;unfold zbe_p0;refine qAf ?_;unfold qBl;dsimp only;rw[deT (by omega),cnT,qAa (by unfold qAd;omega),r1,obS,deT hr];rw[qAa (λ_ h=>by cases h),qAa (λ_ h=>by cases h),qAa (λ_ h=>by cases h),cnT]
   ·obtain⟨e,rfl,ht,e1,e2,e3⟩:=r2.lt hr;have htt:Trees v (i+1) (a+1) e:=by
     have:=h6.app ht;rwa [Nat.add_comm] at this
    have hil:(i:Int)+1+(a+1)<=e:=by
     have:=htt.le;omega
    obtain⟨n,_,hmem,hget⟩:=nd_some e3;obtain⟨y,y1,y2⟩:=ih e (i+1) (names++[n.key]) (by omega) (by omega) e2 (by simp[h4]) (by omega) htt;have hg:∀ {R:Type} (k:Option R),gd (names.length+([n.key]:List BA).length<=9223372036854775807/\(names.length+([n.key]:List BA).length)*16<=140737488355328) k=k:=λk=>qAa (by simp only[List.length_singleton,h4];omega) k
    have round:∀self:List Eng.Node->Int->Bool->Int->Option Int,(∀(b:Nat) (obj:Bool),a<b->0<kids->self v (b:Int) obj (open_+1)=some (ans b obj)) ->
      qBl self open_ (next:Int) (i:Int) v kd (kids:Int) names=bif decide (kd=7) then(zay_s names n.key).bind (λb=>bif b then some (.inr (.inl (-1))) else some (.inl ((e:Int),((i+1:Nat):Int),names++[n.key]))) else some (.inl ((e:Int),((i+1:Nat):Int),names++[n.key])):=by
     intro self hself;have r1:=hself next (decide (kd=7)) h2 (by omega);rw[hrr] at r1;unfold qBl;rw[deT (show(i:Int)<(kids:Int) by omega),cnT,qAa (by unfold qAd;omega),r1,obS,deF hr,cnF];rw[qAa (λ_ _=>by omega),qAa (λ_ _=>by omega),qAa (λ_ _=>by omega)];simp only[Int.toNat_natCast,hget];by_cases h7:kd=7
     ·rw[deT h7,cnT,cnT];congr 1
      funext b
      cases b with
      | true=>rfl
      | false =>
       rw[cnF,qAa (by omega),qAa (by omega),qAa (by omega),hg,qAa (by unfold qAd;omega)];rfl
     ·rw[deF h7,cnF,cnF,qAa (by omega),qAa (by omega),qAa (by omega),hg,qAa (by unfold qAd;omega)];rfl
    have more:(∀self:List Eng.Node->Int->Bool->Int->Option Int,(∀(b:Nat) (obj:Bool),a<b->0<kids->self v (b:Int) obj (open_+1)=some (ans b obj)) ->
      qBl self open_ (next:Int) (i:Int) v kd (kids:Int) names=some (.inl ((e:Int),((i+1:Nat):Int),names++[n.key]))) ->
      ∃y,(∀self:List Eng.Node->Int->Bool->Int->Option Int,(∀(b:Nat) (obj:Bool),a<b->0<kids->self v (b:Int) obj (open_+1)=some (ans b obj))->zbe_p0 self open_ (next:Int) (i:Int) v kd (kids:Int) names=some y)/\((y=.inl (-1))\/∃e:Nat,y=.inr (e:Int)/\Trees v kids (a+1) e):=by
     intro hst;refine⟨y,λself hself=>?_,y2⟩;have y3:=y1 self hself;unfold zbe_p0 at y3 ⊢;rw[qAo (hst self hself)];exact y3
    by_cases h7:kd=7
    ·obtain⟨b,hb⟩:=among_total names (by omega) n.key;cases b with
     | true =>
      refine⟨.inl (-1),λself hself=>?_,.inl rfl⟩;have:=round self hself;rw[deT h7,cnT,hb,obS,cnT] at this;unfold zbe_p0;exact qAf this
     | false =>
      refine more λself hself=>?_
      have:=round self hself;rwa [deT h7,cnT,hb,obS,cnF] at this
    ·refine more λself hself=>?_
     have:=round self hself;rwa [deF h7,cnF] at this
  ·have:i=kids:=by omega
   subst this;refine⟨.inr (next:Int),λself hself=>?_,.inr ⟨next,rfl,h6⟩⟩;unfold zbe_p0;refine qAf ?_;unfold qBl;dsimp only;rw[deF (by omega),cnF]
theorem take_total{v:List Eng.Node}(hv:OkL v):∀(m a:Nat) (obj:Bool) (open_:Int),v.length - a<=m->0<=open_/\open_<=32->∃r,(∀n,m<n->zbe_n n v (a:Int) obj open_=some r)/\Told v a r:=by
 intro m;induction m with
 | zero =>
  intro a obj open_ h1 h2;refine⟨-1,λn hn=>?_,.inl rfl⟩;cases n with
  | zero=>omega
  | succ n =>
   show zbe_t (zbe_n n) v a obj open_=_;unfold zbe_t;rw[deT (by omega),cnT]
 | succ m ih =>
  intro a obj open_ h1 h2;by_cases ha:a<v.length
  ·obtain⟨nd,hnd,hmem,hget⟩:=nd_some ha;obtain⟨p,hp,hp2⟩:=plain_total nd (hv.2 nd hmem);obtain⟨u,hu⟩:=utf_total nd.key (hv.2 nd hmem).key;have hlen:=hv.1;have hki:=(hv.2 nd hmem).kids;unfold qAd at hki;cases hc:((((!p) || (!u)) || ((!obj) && (!decide (nd.key=⟨#[]⟩)))) || (decide (6<=nd.kind) && decide (open_=32))) with
   | true =>
    refine⟨-1,λn hn=>?_,.inl rfl⟩;cases n with
    | zero=>omega
    | succ n =>
     show zbe_t (zbe_n n) v a obj open_=_;unfold zbe_t;rw[deF (by omega),cnF,qAa (by omega),qAa (by omega),Int.toNat_natCast,hget,hp,obS,hu,obS,hc,cnT]
   | false =>
    have hpt:p=true:=by
     cases p
     ·simp at hc
     ·rfl
    obtain⟨k0,k6⟩:=hp2 hpt;have hop:0<nd.kids->open_<32:=λh=>by
     have h6:=k6 h;rw[Bool.or_eq_false_iff] at hc;have:=hc.2;rw[deT h6,Bool.true_and,decide_eq_false_iff_not] at this;omega
    obtain⟨kk,hkk⟩:=Int.eq_ofNat_of_zero_le k0;have hch:∀(b:Nat) (ob:Bool),a<b->0<kk->∃r,(∀n,m<n->zbe_n n v (b:Int) ob (open_+1)=some r)/\Told v b r:=λb ob hb hk=>ih b ob (open_+1) (by omega) (by have:=hop (by omega);omega)
    obtain⟨ans,hans⟩:∃ans:Nat->Bool->Int,∀(b:Nat) (ob:Bool),a<b->0<kk->(∀n,m<n->zbe_n n v (b:Int) ob (open_+1)=some (ans b ob))/\Told v b (ans b ob) :=
     ⟨λb ob=>if h:a<b/\0<kk then(hch b ob h.1 h.2).choose else 0,λb ob h1 h2=>by
      simp only[dif_pos (And.intro h1 h2)];exact(hch b ob h1 h2).choose_spec⟩
    obtain⟨y,hy1,hy2⟩:=take_loop hv (a:=a) h2 nd.kind (kids:=kk) (by omega) ans (λb ob hb hk=>(hans b ob hb hk).2) v.length (a+1) 0 [] (by omega) (by omega) (by omega) rfl (by omega) (Trees.nil _ (by omega));refine⟨Sum.elim id id y,λn hn=>?_,?_⟩
    ·cases n with
     | zero=>omega
     | succ n =>
      show zbe_t (zbe_n n) v a obj open_=_;unfold zbe_t;rw[deF (by omega),cnF,qAa (by omega),qAa (by omega),Int.toNat_natCast,hget,hp,obS,hu,obS,hc,cnF,qAa (by unfold qAd;omega),hkk];have:=hy1 (zbe_n n) λb ob hb hk=>(hans b ob hb hk).1 n (by omega)
      rw[show((a+1:Nat):Int)=(a:Int)+1 by omega,show((0:Nat):Int)=0 from rfl] at this;rw[this,obS];cases y <;> rfl
    ·rcases hy2 with rfl | ⟨e,rfl,he⟩
     ·exact .inl rfl
     ·refine .inr ⟨e,rfl,Tree.mk hnd k0 ?_⟩;rw[hkk];exact he
  ·refine⟨-1,λn hn=>?_,.inl rfl⟩;cases n with
   | zero=>omega
   | succ n =>
    show zbe_t (zbe_n n) v a obj open_=_;unfold zbe_t;rw[deT (by omega),cnT]
theorem take_some{v:List Eng.Node}(hv:OkL v)(a:Nat)(obj:Bool)(open_:Int)(ho:0<=open_/\open_<=32):∃r,zbe_s v (a:Int) obj open_=some r/\Told v a r:=by
 obtain⟨r,h1,h2⟩:=take_total hv v.length a obj open_ (by omega) ho;exact⟨r,evt_eq (N:=v.length+1) λn hn=>h1 n (by omega),h2⟩
theorem shaped_some{v:List Eng.Node}(hv:OkL v):∃b,zax_s v=some b/\(b=true->Tree v 0 v.length):=by
 unfold zax_s;by_cases h0:0<v.length
 ·obtain⟨r,h1,h2⟩:=take_some hv 0 false 0 (by omega);rw[show((0:Nat):Int)=0 from rfl] at h1;rw[deT (by omega),cnT,h1,obS];refine⟨_,rfl,λh=>?_⟩;have h:=of_decide_eq_true h;rcases h2 with h2 | ⟨e,h2,h3⟩
  ·omega
  ·have:e=v.length:=by omega
   rwa [this] at h3
 ·rw[deF (by omega),cnF];exact⟨false,rfl,λh=>by cases h⟩
end Go.Proofs.YtngikdcgcakaaaaDoor
