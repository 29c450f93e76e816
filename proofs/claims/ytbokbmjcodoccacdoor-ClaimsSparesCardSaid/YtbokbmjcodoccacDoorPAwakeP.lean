/-
  Texts of a claim.
-/
import Derived.Test.YtbokbmjcodoccacDoorProg
import Derived.Test.YtbokbmjcodoccacDoorPClaimsP
namespace Go.Proofs.YtbokbmjcodoccacDoor
open Go.Eng
set_option linter.unusedVariables false
set_option linter.unusedSimpArgs false
set_option maxRecDepth 100000
noncomputable section
structure qHa where
 empty:Bool
 from_:Int
 to_:Int
structure qHb where
 algs:(List BA)
 iss:BA
 hasIss:Bool
 aud:BA
 hasAud:Bool
 typ:BA
 hasTyp:Bool
 leeway:Int
 need:(List BA)
def zaf_q:IQ:=(.seq (rg 4 [oP 4 (.mv (vI 0))]) (.seq (.block 0 (.seq (rg 5 [oM 6 t1,oP 7 (.bi .gtr t6 (vI 0)),oM 8 t7,oF 9 (.mv t0) 8,oF 10 (.mv t1) 8,oF 11 (.bi .sub (vI 9223372036854775807) t10) 8,oF 12 (.bi .gtr t9 t11) 8,oP 13 (.pick t8 t12 vF),oM 5 t13]) (.cond t5 (.seq (rg 4 [oP 4 (.mv (vI 9223372036854775807))]) (.cn [4] .ret)) (.seq (rg 14 [oM 15 t1,oP 16 (.bi .lss t15 (vI 0)),oM 17 t16,oF 18 (.mv t0) 17,oF 19 (.mv t1) 17,oF 20 (.bi .sub (.v (.int .i64 (-9223372036854775808))) t19) 17,oF 21 (.bi .lss t18 t20) 17,oP 22 (.pick t17 t21 vF),oM 14 t22]) (.cond t14 (.seq (rg 4 [oP 4 (.mv (.v (.int .i64 (-9223372036854775808))))]) (.cn [4] .ret)) .skip))))) (.seq (rg 4 [oM 23 t0,oM 24 t1,oP 25 (.bi .add t23 t24),oM 4 t25]) (.cn [4] .ret))))
def zaf_s(a b:Int):Option Int :=
 gd ((decide ((0:Int)<b))=true->qAc ((9223372036854775807:Int) - b))<|bif((decide ((0:Int)<b)) && (decide (((9223372036854775807:Int) - b)<a))) then(some (9223372036854775807:Int)) else(gd ((decide (b<(0:Int)))=true->qAc ((-9223372036854775808:Int) - b))<|bif((decide (b<(0:Int))) && (decide (a<((-9223372036854775808:Int) - b)))) then(some (-9223372036854775808:Int)) else(gd (qAc (a+b))<|some (a+b)))
def zaf_c:CS:=mkC (qAa (dVC (dCO dZ)) (qAa (dVC (dCO dZ)) dNil)) dNil (λx y=>zaf_s x.1 x.2.1) (λx y r=>.c (.o (.vI r))) λx y r=>[]
theorem zaf_val:qAj Tryd.prog 16 zaf_c:=vl0 zaf_q [.tmp 4] 26 5 0 [] trivial λx y=>by
 simp only[zaf_s,-eq_self,sZ];kernel_rfl
def zaf_w:CQ:=qDp [] zaf_c
theorem zaf_ok:qAh Tryd.prog 16 zaf_w:=qA9 zaf_val
def zac_b1:IQ:=(.loop [1,4,6,7,39,40,41] (.seq (rg 42 [oP 42 (.bi .lss t41 t40)]) (.seq (.cond t42 .skip (.cn [4,6,7] (.exit 0))) (.seq (.block 1 (.seq (rg 0 [oP 43 (.iaddr 2 t39 t41),oP 44 (.load (some 2) t43),oP 9 (.alloc 26 [.bool false,.int .i64 0]),oN (.store 2 t9 t44)]) (.seq (rg 46 [oP 45 (.faddr 0 t9),oP 46 (.load none t45)]) (.cond t46 (rg 6 [oM 47 t6,oP 48 (.faddr 1 t9),oP 49 (.load none t48),oM 50 t1,oP 51 (.un .neg t50),oP 52 (.call 16 [t49,t51]),oP 53 (.mm true t47 t52),oM 6 t53]) .skip)))) (rg 41 [oP 54 (.bi .add t41 (vI 1)),oM 41 t54])))))
def zac_b0:IQ:=(.seq (.seq (rg 41 [oP 35 (.faddr 11 t2),oP 36 (.load (some 2) t35),oP 37 (.faddr 13 t2),oP 38 (.load (some 2) t37),oP 39 (.bslice 26 2 2 [.bool false,.int .i64 0] [(0,t36),(1,t38)]),oP 40 (.len t39),oP 41 (.mv (vI 0))]) (.block 0 (.cn [1,4,6,7,39,40,41] (.sub 1 zac_b1)))) (.seq (.seq (rg 57 [oM 55 t7,oM 56 t6,oP 57 (.bi .lss t55 t56)]) (.cond t57 (.seq (rg 5 [oP 58 (.build [.bool false,.int .i64 0,.int .i64 0] [(0,1,vT)]),oN (.store 3 t4 t58),oP 5 (.mv (vI 0))]) (.cn [4,5] .ret)) .skip)) (.seq (rg 5 [oM 59 t6,oM 60 t7,oP 61 (.build [.bool false,.int .i64 0,.int .i64 0] [(1,1,t59),(2,1,t60)]),oN (.store 3 t4 t61),oP 5 (.mv (vI 0))]) (.cn [4,5] .ret))))
def zac_q:IQ:=(.seq (rg 5 [oP 2 (.box 28 15 t0),oP 4 (.alloc 42 [.bool false,.int .i64 0,.int .i64 0]),oP 5 (.mv (vI 0))]) (.seq (.seq (rg 15 [oM 10 t1,oP 11 (.bi .lss t10 (vI 0)),oM 12 t11,oE 13 (.mv t1) 12,oE 14 (.bi .gtr t13 (vI 600)) 12,oP 15 (.pick t12 vT t14)]) (.cond t15 (.seq (rg 5 [oP 16 (.build [.bool false,.int .i64 0,.int .i64 0] []),oN (.store 3 t4 t16),oP 5 (.mv (vI 12))]) (.cn [4,5] .ret)) .skip)) (.seq (rg 7 [oP 6 (.mv (.v (.int .i64 (-9223372036854775808)))),oP 7 (.mv (vI 9223372036854775807))]) (.seq (.seq (rg 19 [oP 17 (.faddr 9 t2),oP 18 (.faddr 0 t17),oP 19 (.load none t18)]) (.cond t19 (.seq (.seq (rg 27 [oP 20 (.faddr 9 t2),oP 21 (.faddr 1 t20),oP 22 (.load none t21),oP 23 (.bi .eql t22 (.v (.int .i64 (-9223372036854775808)))),oM 24 t23,oF 25 (.mv t1) 24,oF 26 (.bi .eql t25 (vI 0)) 24,oP 27 (.pick t24 t26 vF)]) (.cond t27 (.seq (rg 5 [oP 28 (.build [.bool false,.int .i64 0,.int .i64 0] [(0,1,vT)]),oN (.store 3 t4 t28),oP 5 (.mv (vI 0))]) (.cn [4,5] .ret)) .skip)) (rg 7 [oP 29 (.faddr 9 t2),oP 30 (.faddr 1 t29),oP 31 (.load none t30),oM 32 t1,oP 33 (.bi .sub t32 (vI 1)),oP 34 (.call 16 [t31,t33]),oM 7 t34])) .skip)) (.cn [1,2,4,6,7] (.sub 0 zac_b0))))))
def qFa(leeway from_ x40_ x41_:Int)(x39_:List Eng.Tm):Option ((Int × Int) ⊕ Int) :=
 bif decide (x41_<x40_) then(gd (0<=x41_/\x41_<x39_.length)<|gd (x41_.toNat<x39_.length)<|bif(x39_.getD x41_.toNat (ET.dft .tm)).has then(gd (qAc (0 - leeway))<|(zaf_s ((x39_.getD x41_.toNat (ET.dft .tm)).at_) (0 - leeway)).bind λr6 =>gd (qAc (x41_+(1:Int)))<|some (.inl ((if r6 > from_ then r6 else from_),(x41_+(1:Int))))) else(gd (qAc (x41_+(1:Int)))<|some (.inl (from_,(x41_+(1:Int)))))) else(some (.inr from_))
def zac_p1(leeway from_ x40_ x41_:Int)(x39_:List Eng.Tm):Option Int :=
 qA0 (λx:(Int × Int)=>qFa leeway x.1 x40_ x.2 x39_) (from_,x41_)
def zac_p0(leeway from_ to_:Int)(qG6:Bool)(qG9:Int)(qG5:Bool)(qG8:Int):Option (Int × Bool × Int × Int) :=
 (zac_p1 leeway from_ ([(⟨qG6,qG9⟩:Eng.Tm),(⟨qG5,qG8⟩:Eng.Tm)].length:Int) (0:Int) [(⟨qG6,qG9⟩:Eng.Tm),(⟨qG5,qG8⟩:Eng.Tm)]).bind λo7 =>bif decide (to_<o7) then(some ((0:Int),true,(0:Int),(0:Int))) else(some ((0:Int),false,o7,to_))
def zac_s(c:qGv)(leeway:Int):Option (qHa × Int) :=
 bif((decide (leeway<(0:Int))) || (decide ((600:Int)<leeway))) then(some ((⟨false,(0:Int),(0:Int)⟩:qHa),(12:Int))) else(bif c.exp_.has then(bif((decide (c.exp_.at_=(-9223372036854775808:Int))) && (decide (leeway=(0:Int)))) then(some ((⟨true,(0:Int),(0:Int)⟩:qHa),(0:Int))) else(gd (qAc (leeway - (1:Int)))<|(zaf_s c.exp_.at_ (leeway - (1:Int))).bind λr5 =>(zac_p0 leeway (-9223372036854775808:Int) r5 c.nbf.has c.nbf.at_ c.iat.has c.iat.at_).bind λo8 =>some ((⟨o8.2.1,o8.2.2.1,o8.2.2.2⟩:qHa),o8.1))) else((zac_p0 leeway (-9223372036854775808:Int) (9223372036854775807:Int) c.nbf.has c.nbf.at_ c.iat.has c.iat.at_).bind λo9 =>some ((⟨o9.2.1,o9.2.2.1,o9.2.2.2⟩:qHa),o9.1)))
def zac_G:Nat->Option CQ:=tblQ [(16,zaf_w)]
def zac_d1:=(dQS (qAa (dSO 1 dZ) (qAa (dSO 4 (dH 2 0)) (qAa (dSO 6 dZ) (qAa (dSO 7 dZ) (qAa (dSO 39 (dO 3)) (qAa (dSO 40 dZ) (qAa (dSO 41 dZ) dNil))))))) (qAa (qA5 .node) (qAa (qA5 .str) (qAa (qC7 42 (qAa dB (qAa dZ (qAa dZ dNil)))) (qAa (dRow .tm 26) dNil)))))
def zac_l1:SubQ:=mkL zac_d1 (λx=>zac_p1 x.1.1 x.1.2.2.1 x.1.2.2.2.2.2.1 x.1.2.2.2.2.2.2.1 x.2.2.2.2.1) λx r R kn kx kr=>kx 0 ⟨[sL 4 (.hd 2 0),sL 6 (.vI r),sL 7 (.vI x.1.2.2.2.1)],[],[.view .node x.2.1,.view .str x.2.2.1,.cells 42 [.vB x.2.2.2.1.1,.vI x.2.2.2.1.2.1,.vI x.2.2.2.1.2.2.1]]⟩
def zDJC1:=(qAa (dO 0) (qAa dS (qAa dB (qAa dS (qAa dB (qAa (dO 1) (qAa dB (qAa dS (qAa dB (qAa dB (qAa dZ (qAa dB (qAa dZ (qAa dB (qAa dZ dNil)))))))))))))))
def zac_d0:=(dQS (qAa (dSO 1 dZ) (qAa (dSO 2 (dH 2 0)) (qAa (dSO 4 (dH 3 0)) (qAa (dSO 6 dZ) (qAa (dSO 7 dZ) dNil))))) (qAa (qA5 .node) (qAa (qA5 .str) (qAa (qC7 28 zDJC1) (qAa (qC7 42 (qAa dB (qAa dZ (qAa dZ dNil)))) dNil)))))
def zac_l0:SubQ:=mkL zac_d0 (λx=>zac_p0 x.1.1 x.1.2.2.2.1 x.1.2.2.2.2.1 x.2.2.2.1.2.2.2.2.2.2.2.2.2.2.2.1 x.2.2.2.1.2.2.2.2.2.2.2.2.2.2.2.2.1 x.2.2.2.1.2.2.2.2.2.2.2.2.2.2.2.2.2.1 x.2.2.2.1.2.2.2.2.2.2.2.2.2.2.2.2.2.2.1) λx r R kn kx kr=>kr ⟨[sL 4 (.hd 2 0),sL 5 (.vI r.1)],[],[.view .node x.2.1,.view .str x.2.2.1,.cells 42 [.vB r.2.1,.vI r.2.2.1,.vI r.2.2.2]]⟩
def zac_L:Nat->SubQ:=tblL [(1,zac_l1),(0,zac_l0)]
theorem zac_sub1:qBl zac_L zac_G 2 42 62 1 zac_b1:=qAw (show zac_L 1=zac_l1 from by kernel_rfl) λx R kn kx kr=>qAi (step:=λy=>qFa x.1.1 y.1 x.1.2.2.2.2.2.1 y.2 x.2.2.2.2.1) (enc:=λ(y:Int × Int)=>zac_d1.e ((x.1.1,x.1.2.1,y.1,x.1.2.2.2.1,x.1.2.2.2.2.1,x.1.2.2.2.2.2.1,y.2,x.1.2.2.2.2.2.2.2),x.2)) (λy=>by kernel_rfl) (λy ki=>by simp only[qFa,-eq_self,sZ];kernel_rfl) (x.1.2.2.1,x.1.2.2.2.2.2.2.1)
theorem zac_sub0:qBl zac_L zac_G 2 42 62 0 zac_b0:=qAw (show zac_L 0=zac_l0 from by kernel_rfl) λx R kn kx kr=>by
 simp only[zac_p0,-eq_self,sZ];kernel_rfl
def zac_c:CS:=mkC (qAa (dVC (dCA zDJC1)) (qAa (dVC (dCO dZ)) dNil)) (qAa (qA5 .node) (qAa (qA5 .str) dNil)) (λx y=>zac_s (⟨y.1,x.1.2.1,x.1.2.2.1,x.1.2.2.2.1,x.1.2.2.2.2.1,y.2.1,x.1.2.2.2.2.2.2.1,x.1.2.2.2.2.2.2.2.1,x.1.2.2.2.2.2.2.2.2.1,(⟨x.1.2.2.2.2.2.2.2.2.2.1,x.1.2.2.2.2.2.2.2.2.2.2.1⟩:qG0),(⟨x.1.2.2.2.2.2.2.2.2.2.2.2.1,x.1.2.2.2.2.2.2.2.2.2.2.2.2.1⟩:qG0),(⟨x.1.2.2.2.2.2.2.2.2.2.2.2.2.2.1,x.1.2.2.2.2.2.2.2.2.2.2.2.2.2.2.1⟩:qG0)⟩:qGv) x.2.1) (λx y r=>.tup [.agg [.vB r.1.empty,.vI r.1.from_,.vI r.1.to_],.o (.vI r.2)]) λx y r=>[.view .node y.1,.view .str y.2.1]
theorem zac_val:qAj Tryd.prog 8 zac_c:=vl1 zac_q [.cell 4 (some 3),.tmp 5] 62 42 2 (show qA8 zac_L zac_G 2 42 62 [(0,zac_b0),(1,zac_b1)] from⟨zac_sub0,zac_sub1,tV⟩) (qAt ⟨zaf_ok,tV⟩) λx y=>by
 simp only[zac_s,-eq_self,sZ];kernel_rfl
def zac_w:CQ:=qBy [(0,some 0,some (.node,37)),(0,some 5,some (.str,9))] (qDp [false,false] zac_c)
theorem zac_ok:qAh Tryd.prog 8 zac_w:=qCc zac_val
def zbs_b0:IQ:=(.loop [0,1,7,8] (.seq (rg 9 [oP 9 (.bi .lss t8 t7)]) (.seq (.cond t9 .skip (.cn [] (.exit 0))) (.seq (.block 1 (.seq (rg 5 [oM 10 t8,oM 5 t10]) (.seq (rg 16 [oM 11 t1,oM 12 t0,oM 13 t5,oP 14 (.iaddr 1 t12 t13),oP 15 (.load none t14),oP 16 (.bi .eql t11 t15)]) (.cond t16 (.seq (rg 4 [oM 17 t5,oM 4 t17]) (.cn [4] .ret)) .skip)))) (rg 8 [oP 18 (.bi .add t8 (vI 1)),oM 8 t18])))))
def zbs_q:IQ:=(.seq (rg 4 [oP 4 (.mv (vI 0))]) (.seq (.seq (rg 8 [oM 6 t0,oP 7 (.len t6),oP 8 (.mv (vI 0))]) (.block 0 (.cn [0,1,7,8] (.sub 0 zbs_b0)))) (.seq (rg 4 [oP 4 (.mv (.v (.int .i64 (-1))))]) (.cn [4] .ret))))
def qC4(v:BA)(x7_ x8_:Int)(s:List BA):Option (Int ⊕ (Int ⊕ Unit)) :=
 bif decide (x8_<x7_) then(gd (0<=x8_/\x8_<s.length)<|gd (x8_.toNat<s.length)<|bif decide (v=(s.getD x8_.toNat (ET.dft .str))) then(some (.inr (.inl x8_))) else(gd (qAc (x8_+(1:Int)))<|some (.inl (x8_+(1:Int))))) else(some (.inr (.inr ())))
def zbs_p0(v:BA)(x7_ x8_:Int)(s:List BA):Option (Int ⊕ Unit) :=
 qA0 (λx:Int=>qC4 v x7_ x s) x8_
def zbs_s(s:(List BA))(v:BA):Option Int :=
 (zbs_p0 v (s.length:Int) (0:Int) s).bind λo1=>(Sum.elim (λ(o1_0:Int) =>some o1_0) (λ(o1_1:Unit) =>some (-1:Int))) o1
def zbs_G:Nat->Option CQ:=tblQ []
def zbs_d0:=(dQS (qAa (dSO 0 (dO 0)) (qAa (dSO 1 dS) (qAa (dSO 7 dZ) (qAa (dSO 8 dZ) dNil)))) (qAa (qA5 .str) dNil))
def zbs_l0:SubQ:=mkL zbs_d0 (λx=>zbs_p0 x.1.2.1 x.1.2.2.1 x.1.2.2.2.1 x.2.1) λx r R kn kx kr=>(Sum.elim (λ(r_0:Int)=>kr ⟨[sL 4 (.vI r_0)],[],[.view .str x.2.1]⟩) (λ(r_1:Unit)=>kx 0 ⟨[],[],[.view .str x.2.1]⟩)) r
def zbs_L:Nat->SubQ:=tblL [(0,zbs_l0)]
theorem zbs_sub0:qBl zbs_L zbs_G 1 9 19 0 zbs_b0:=qAw (show zbs_L 0=zbs_l0 from by kernel_rfl) λx R kn kx kr=>qAi (step:=λy=>qC4 x.1.2.1 x.1.2.2.1 y x.2.1) (enc:=λ(y:Int)=>zbs_d0.e ((x.1.1,x.1.2.1,x.1.2.2.1,y,x.1.2.2.2.2),x.2)) (λy=>by kernel_rfl) (λy ki=>by simp only[qC4,-eq_self,sZ];kernel_rfl) x.1.2.2.2.1
def zbs_c:CS:=mkC (qAa (dVC (dCO (dO 0))) (qAa (dVC (dCO dS)) dNil)) (qAa (qA5 .str) dNil) (λx y=>zbs_s y.1 x.2.1) (λx y r=>.c (.o (.vI r))) λx y r=>[.view .str y.1]
theorem zbs_val:qAj Tryd.prog 23 zbs_c:=vl1 zbs_q [.tmp 4] 19 9 1 (show qA8 zbs_L zbs_G 1 9 19 [(0,zbs_b0)] from⟨zbs_sub0,tV⟩) (λf C h=>by cases h) λx y=>by
 simp only[zbs_s,-eq_self,sZ];kernel_rfl
def zbs_w:CQ:=qBy [(0,none,some (.str,9))] (qDp [false] zbs_c)
theorem zbs_ok:qAh Tryd.prog 23 zbs_w:=qCc zbs_val
def zbr_q:IQ:=(.seq (rg 4 [oP 4 (.mv vF)]) (.seq (rg 4 [oM 5 t0,oM 6 t1,oP 7 (.call 23 [t5,t6]),oP 8 (.bi .geq t7 (vI 0)),oM 4 t8]) (.cn [4] .ret)))
def zbr_s(s:(List BA))(v:BA):Option Bool :=
 (zbs_s s v).bind λr1 =>some (decide ((0:Int)<=r1))
def zbr_c:CS:=mkC (qAa (dVC (dCO (dO 0))) (qAa (dVC (dCO dS)) dNil)) (qAa (qA5 .str) dNil) (λx y=>zbr_s y.1 x.2.1) (λx y r=>.c (.o (.vB r))) λx y r=>[.view .str y.1]
theorem zbr_val:qAj Tryd.prog 18 zbr_c:=vl0 zbr_q [.tmp 4] 9 5 1 [(23,zbs_w)] ⟨zbs_ok,tV⟩ λx y=>by
 simp only[zbr_s,-eq_self,sZ];kernel_rfl
def zbr_w:CQ:=qBy [(0,none,some (.str,9))] (qDp [false] zbr_c)
theorem zbr_ok:qAh Tryd.prog 18 zbr_w:=qCc zbr_val
def zaa_b0:IQ:=(.loop [2,3,8,9,10] (.seq (rg 11 [oP 11 (.bi .lss t10 t9)]) (.seq (.cond t11 .skip (.cn [2,3] (.exit 0))) (.seq (.block 1 (.seq (rg 6 [oP 12 (.iaddr 1 t8 t10),oP 13 (.load none t12),oM 6 t13]) (.seq (rg 18 [oP 14 (.faddr 0 t2),oP 15 (.load none t14),oM 16 t6,oP 17 (.call 17 [t15,(vI 0),t16]),oP 18 (.bi .lss t17 (vI 0))]) (.cond t18 (.seq (rg 4 [oP 4 (.mv (vI 137))]) (.cn [4] .ret)) .skip)))) (rg 10 [oP 19 (.bi .add t10 (vI 1)),oM 10 t19])))))
def zaa_q:IQ:=(.seq (rg 4 [oP 2 (.box 28 15 t0),oP 3 (.box 46 9 t1),oP 4 (.mv (vI 0))]) (.seq (.seq (rg 10 [oP 7 (.faddr 8 t3),oP 8 (.load none t7),oP 9 (.len t8),oP 10 (.mv (vI 0))]) (.block 0 (.cn [2,3,8,9,10] (.sub 0 zaa_b0)))) (.seq (.block 2 (.seq (rg 20 [oP 21 (.faddr 2 t3),oP 22 (.load none t21),oM 23 t22,oF 24 (.faddr 2 t2) 23,oF 25 (.load none t24) 23,oF 26 (.mv t25) 23,oF 27 (.faddr 1 t2) 26,oF 28 (.load none t27) 26,oF 29 (.faddr 1 t3) 26,oF 30 (.load none t29) 26,oF 31 (.bi .eql t28 t30) 26,oF 32 (.pick t26 t31 vF) 23,oF 33 (.un .not t32) 23,oP 34 (.pick t23 t33 vF),oM 20 t34]) (.cond t20 (.seq (rg 4 [oP 4 (.mv (vI 132))]) (.cn [4] .ret)) (.seq (.seq (rg 35 [oP 36 (.faddr 4 t3),oP 37 (.load none t36),oM 38 t37,oF 39 (.faddr 6 t2) 38,oF 40 (.load none t39) 38,oF 41 (.mv t40) 38,oF 42 (.faddr 5 t2) 41,oF 43 (.load none t42) 41,oF 44 (.faddr 3 t3) 41,oF 45 (.load none t44) 41,oF 46 (.call 18 [t43,t45]) 41,oF 47 (.pick t41 t46 vF) 38,oF 48 (.un .not t47) 38,oP 49 (.pick t38 t48 vF),oM 35 t49]) (.cond t35 .skip (rg 35 [oP 50 (.faddr 4 t3),oP 51 (.load none t50),oP 52 (.un .not t51),oM 53 t52,oF 54 (.faddr 6 t2) 53,oF 55 (.load none t54) 53,oP 56 (.pick t53 t55 vF),oM 35 t56]))) (.cond t35 (.seq (rg 4 [oP 4 (.mv (vI 133))]) (.cn [4] .ret)) .skip))))) (.seq (rg 4 [oP 4 (.mv (vI 0))]) (.cn [4] .ret)))))
def qDw(x9_ x10_:Int)(c_value:List Eng.Node)(x8_:List BA):Option (Int ⊕ (Int ⊕ Unit)) :=
 bif decide (x10_<x9_) then(gd (0<=x10_/\x10_<x8_.length)<|gd (x10_.toNat<x8_.length)<|(zao_s c_value (0:Int) (x8_.getD x10_.toNat (ET.dft .str))).bind λr2 =>bif decide (r2<(0:Int)) then(some (.inr (.inl (137:Int)))) else(gd (qAc (x10_+(1:Int)))<|some (.inl (x10_+(1:Int))))) else(some (.inr (.inr ())))
def zaa_p0(x9_ x10_:Int)(c_value:List Eng.Node)(x8_:List BA):Option (Int ⊕ Unit) :=
 qA0 (λx:Int=>qDw x9_ x c_value x8_) x10_
def zaa_s(c:qGv)(p:qHb):Option Int :=
 (zaa_p0 (p.need.length:Int) (0:Int) c.value p.need).bind λo3=>(Sum.elim (λ(o3_0:Int) =>some o3_0) (λ(o3_1:Unit) =>bif(p.hasIss && (!(c.hasIss && (decide (c.iss=p.iss))))) then(some (132:Int)) else(bif p.hasAud then(bif c.hasAud then((zbr_s c.aud p.aud).bind λr4 =>bif(!r4) then(bif(!r4) then(some (133:Int)) else(some (0:Int))) else(bif((!p.hasAud) && c.hasAud) then(some (133:Int)) else(some (0:Int)))) else(some (133:Int))) else(bif((!p.hasAud) && c.hasAud) then(some (133:Int)) else(some (0:Int)))))) o3
def zaa_G:Nat->Option CQ:=tblQ [(17,zao_w),(18,zbr_w)]
def zaa_d0:=(dQS (qAa (dSO 2 (dH 4 0)) (qAa (dSO 3 (dH 5 0)) (qAa (dSO 8 (dO 3)) (qAa (dSO 9 dZ) (qAa (dSO 10 dZ) dNil))))) (qAa (qA5 .node) (qAa (qA5 .str) (qAa (qA5 .str) (qAa (qA5 .str) (qAa (qC7 28 zDJC1) (qAa (qC7 46 (qAa (dO 2) (qAa dS (qAa dB (qAa dS (qAa dB (qAa dS (qAa dB (qAa dZ (qAa (dO 3) dNil)))))))))) dNil)))))))
def zaa_l0:SubQ:=mkL zaa_d0 (λx=>zaa_p0 x.1.2.2.2.1 x.1.2.2.2.2.1 x.2.1 x.2.2.2.2.1) λx r R kn kx kr=>(Sum.elim (λ(r_0:Int)=>kr ⟨[sL 4 (.vI r_0)],[],[.view .node x.2.1,.view .str x.2.2.1,.view .str x.2.2.2.1,.view .str x.2.2.2.2.1]⟩) (λ(r_1:Unit)=>kx 0 ⟨[sL 2 (.hd 4 0),sL 3 (.hd 5 0)],[],[.view .node x.2.1,.view .str x.2.2.1,.view .str x.2.2.2.1,.view .str x.2.2.2.2.1,.cells 28 [.own 0,.vS x.2.2.2.2.2.1.2.1,.vB x.2.2.2.2.2.1.2.2.1,.vS x.2.2.2.2.2.1.2.2.2.1,.vB x.2.2.2.2.2.1.2.2.2.2.1,.own 1,.vB x.2.2.2.2.2.1.2.2.2.2.2.2.1,.vS x.2.2.2.2.2.1.2.2.2.2.2.2.2.1,.vB x.2.2.2.2.2.1.2.2.2.2.2.2.2.2.1,.vB x.2.2.2.2.2.1.2.2.2.2.2.2.2.2.2.1,.vI x.2.2.2.2.2.1.2.2.2.2.2.2.2.2.2.2.1,.vB x.2.2.2.2.2.1.2.2.2.2.2.2.2.2.2.2.2.1,.vI x.2.2.2.2.2.1.2.2.2.2.2.2.2.2.2.2.2.2.1,.vB x.2.2.2.2.2.1.2.2.2.2.2.2.2.2.2.2.2.2.2.1,.vI x.2.2.2.2.2.1.2.2.2.2.2.2.2.2.2.2.2.2.2.2.1],.cells 46 [.own 2,.vS x.2.2.2.2.2.2.1.2.1,.vB x.2.2.2.2.2.2.1.2.2.1,.vS x.2.2.2.2.2.2.1.2.2.2.1,.vB x.2.2.2.2.2.2.1.2.2.2.2.1,.vS x.2.2.2.2.2.2.1.2.2.2.2.2.1,.vB x.2.2.2.2.2.2.1.2.2.2.2.2.2.1,.vI x.2.2.2.2.2.2.1.2.2.2.2.2.2.2.1,.own 3]]⟩)) r
def zaa_L:Nat->SubQ:=tblL [(0,zaa_l0)]
theorem zaa_sub0:qBl zaa_L zaa_G 4 11 57 0 zaa_b0:=qAw (show zaa_L 0=zaa_l0 from by kernel_rfl) λx R kn kx kr=>qAi (step:=λy=>qDw x.1.2.2.2.1 y x.2.1 x.2.2.2.2.1) (enc:=λ(y:Int)=>zaa_d0.e ((x.1.1,x.1.2.1,x.1.2.2.1,x.1.2.2.2.1,y,x.1.2.2.2.2.2),x.2)) (λy=>by kernel_rfl) (λy ki=>by simp only[qDw,-eq_self,sZ];kernel_rfl) x.1.2.2.2.2.1
def zaa_c:CS:=mkC (qAa (dVC (dCA zDJC1)) (qAa (dVC (dCA (qAa (dO 2) (qAa dS (qAa dB (qAa dS (qAa dB (qAa dS (qAa dB (qAa dZ (qAa (dO 3) dNil))))))))))) dNil)) (qAa (qA5 .node) (qAa (qA5 .str) (qAa (qA5 .str) (qAa (qA5 .str) dNil)))) (λx y=>zaa_s (⟨y.1,x.1.2.1,x.1.2.2.1,x.1.2.2.2.1,x.1.2.2.2.2.1,y.2.1,x.1.2.2.2.2.2.2.1,x.1.2.2.2.2.2.2.2.1,x.1.2.2.2.2.2.2.2.2.1,(⟨x.1.2.2.2.2.2.2.2.2.2.1,x.1.2.2.2.2.2.2.2.2.2.2.1⟩:qG0),(⟨x.1.2.2.2.2.2.2.2.2.2.2.2.1,x.1.2.2.2.2.2.2.2.2.2.2.2.2.1⟩:qG0),(⟨x.1.2.2.2.2.2.2.2.2.2.2.2.2.2.1,x.1.2.2.2.2.2.2.2.2.2.2.2.2.2.2.1⟩:qG0)⟩:qGv) (⟨y.2.2.1,x.2.1.2.1,x.2.1.2.2.1,x.2.1.2.2.2.1,x.2.1.2.2.2.2.1,x.2.1.2.2.2.2.2.1,x.2.1.2.2.2.2.2.2.1,x.2.1.2.2.2.2.2.2.2.1,y.2.2.2.1⟩:qHb)) (λx y r=>.c (.o (.vI r))) λx y r=>[.view .node y.1,.view .str y.2.1,.view .str y.2.2.1,.view .str y.2.2.2.1]
theorem zaa_val:qAj Tryd.prog 9 zaa_c:=vl1 zaa_q [.tmp 4] 57 11 4 (show qA8 zaa_L zaa_G 4 11 57 [(0,zaa_b0)] from⟨zaa_sub0,tV⟩) (qAt ⟨zao_ok,zbr_ok,tV⟩) λx y=>by
 simp only[zaa_s,-eq_self,sZ];kernel_rfl
def zaa_w:CQ:=qBy [(0,some 0,some (.node,37)),(0,some 5,some (.str,9)),(1,some 0,some (.str,9)),(1,some 8,some (.str,9))] (qDp [false,false,false,false] zaa_c)
theorem zaa_ok:qAh Tryd.prog 9 zaa_w:=qCc zaa_val
def zab_q:IQ:=(.seq (rg 6 [oP 3 (.box 28 15 t0),oP 6 (.mv (vI 0))]) (.seq (.block 0 (.seq (rg 7 [oM 8 t1,oP 9 (.bi .lss t8 (vI 0)),oM 10 t9,oE 11 (.mv t1) 10,oE 12 (.bi .gtr t11 (vI 600)) 10,oP 13 (.pick t10 vT t12),oM 7 t13]) (.cond t7 (.seq (rg 6 [oP 6 (.mv (vI 12))]) (.cn [6] .ret)) (.seq (.reg 14 (some [0,1,2,3,4,5,6,8,9,10,7,11,12,13,14,15,16,17,18,19,20,21,22,23,24,25,26]) [oP 15 (.faddr 9 t3),oP 16 (.faddr 0 t15),oP 17 (.load none t16),oM 18 t17,oF 19 (.mv t2) 18,oF 20 (.mv t1) 18,oF 21 (.un .neg t20) 18,oF 23 (.faddr 9 t3) 18,oF 24 (.faddr 1 t23) 18,oF 25 (.load none t24) 18,oF 22 (.call 16 [t19,t21]) 18,oF 26 (.bi .geq t22 t25) 18,oP 27 (.pick t18 t26 vF),oM 28 t27,oF 29 (.mv t2) 28,oF 30 (.mv t1) 28,oF 31 (.bi .add (.v (.int .i64 (-9223372036854775808))) t30) 28,oF 32 (.bi .lss t29 t31) 28,oF 33 (.mv t32) 28,oF 34 (.faddr 9 t3) 33,oF 35 (.faddr 1 t34) 33,oF 36 (.load none t35) 33,oF 37 (.bi .eql t36 (.v (.int .i64 (-9223372036854775808)))) 33,oF 38 (.pick t33 t37 vF) 28,oF 39 (.un .not t38) 28,oP 40 (.pick t28 t39 vF),oM 14 t40]) (.cond t14 (.seq (rg 6 [oP 6 (.mv (vI 134))]) (.cn [6] .ret)) (.seq (rg 41 [oP 42 (.faddr 11 t3),oP 43 (.faddr 0 t42),oP 44 (.load none t43),oM 45 t44,oF 46 (.mv t2) 45,oF 47 (.faddr 11 t3) 45,oF 48 (.faddr 1 t47) 45,oF 49 (.load none t48) 45,oF 50 (.mv t1) 45,oF 51 (.un .neg t50) 45,oF 52 (.call 16 [t49,t51]) 45,oF 53 (.bi .lss t46 t52) 45,oP 54 (.pick t45 t53 vF),oM 41 t54]) (.cond t41 (.seq (rg 6 [oP 6 (.mv (vI 135))]) (.cn [6] .ret)) (.seq (rg 55 [oP 56 (.faddr 13 t3),oP 57 (.faddr 0 t56),oP 58 (.load none t57),oM 59 t58,oF 60 (.mv t2) 59,oF 61 (.faddr 13 t3) 59,oF 62 (.faddr 1 t61) 59,oF 63 (.load none t62) 59,oF 64 (.mv t1) 59,oF 65 (.un .neg t64) 59,oF 66 (.call 16 [t63,t65]) 59,oF 67 (.bi .lss t60 t66) 59,oP 68 (.pick t59 t67 vF),oM 55 t68]) (.cond t55 (.seq (rg 6 [oP 6 (.mv (vI 136))]) (.cn [6] .ret)) .skip))))))))) (.seq (rg 6 [oP 6 (.mv (vI 0))]) (.cn [6] .ret))))
def zab_s(c:qGv)(leeway now:Int):Option Int :=
 bif((decide (leeway<(0:Int))) || (decide ((600:Int)<leeway))) then(some (12:Int)) else(gd (c.exp_.has=true->qAc (0 - leeway))<|(zaf_s now (0 - leeway)).bind λr1 =>gd ((c.exp_.has && (decide (c.exp_.at_<=r1)))=true->qAc ((-9223372036854775808:Int)+leeway))<|bif((c.exp_.has && (decide (c.exp_.at_<=r1))) && (!((decide (now<((-9223372036854775808:Int)+leeway))) && (decide (c.exp_.at_=(-9223372036854775808:Int)))))) then(some (134:Int)) else(gd (c.nbf.has=true->qAc (0 - leeway))<|bif c.nbf.has then((zaf_s c.nbf.at_ (0 - leeway)).bind λr2 =>bif decide (now<r2) then(some (135:Int)) else(gd (c.iat.has=true->qAc (0 - leeway))<|bif c.iat.has then((zaf_s c.iat.at_ (0 - leeway)).bind λr3 =>bif decide (now<r3) then(some (136:Int)) else(some (0:Int))) else(some (0:Int)))) else(gd (c.iat.has=true->qAc (0 - leeway))<|bif c.iat.has then((zaf_s c.iat.at_ (0 - leeway)).bind λr4 =>bif decide (now<r4) then(some (136:Int)) else(some (0:Int))) else(some (0:Int)))))
def zab_c:CS:=mkC (qAa (dVC (dCA zDJC1)) (qAa (dVC (dCO dZ)) (qAa (dVC (dCO dZ)) dNil))) (qAa (qA5 .node) (qAa (qA5 .str) dNil)) (λx y=>zab_s (⟨y.1,x.1.2.1,x.1.2.2.1,x.1.2.2.2.1,x.1.2.2.2.2.1,y.2.1,x.1.2.2.2.2.2.2.1,x.1.2.2.2.2.2.2.2.1,x.1.2.2.2.2.2.2.2.2.1,(⟨x.1.2.2.2.2.2.2.2.2.2.1,x.1.2.2.2.2.2.2.2.2.2.2.1⟩:qG0),(⟨x.1.2.2.2.2.2.2.2.2.2.2.2.1,x.1.2.2.2.2.2.2.2.2.2.2.2.2.1⟩:qG0),(⟨x.1.2.2.2.2.2.2.2.2.2.2.2.2.2.1,x.1.2.2.2.2.2.2.2.2.2.2.2.2.2.2.1⟩:qG0)⟩:qGv) x.2.1 x.2.2.1) (λx y r=>.c (.o (.vI r))) λx y r=>[.view .node y.1,.view .str y.2.1]
theorem zab_val:qAj Tryd.prog 10 zab_c:=vl0 zab_q [.tmp 6] 69 7 2 [(16,zaf_w)] ⟨zaf_ok,tV⟩ λx y=>by
 simp only[zab_s,-eq_self,sZ];kernel_rfl
def zab_w:CQ:=qBy [(0,some 0,some (.node,37)),(0,some 5,some (.str,9))] (qDp [false,false] zab_c)
theorem zab_ok:qAh Tryd.prog 10 zab_w:=qCc zab_val
def zbm_q:IQ:=(.seq (rg 0 [oP 0 (.mv vF)]) (.seq (rg 2 [oP 7 (.call 5 [(.v (.string ⟨#[123,34,105,115,115,34,58,34,97,34,44,34,97,117,100,34,58,91,34,120,34,44,34,121,34,93,44,34,101,120,112,34,58,49,48,44,34,110,34,58,49,125]⟩))]),oM 6 t7,oP 8 (.extract t6 0),oP 9 (.extract t6 1),oP 1 (.alloc 28 [.slice none 0 0,.string ⟨#[]⟩,.bool false,.string ⟨#[]⟩,.bool false,.slice none 0 0,.bool false,.string ⟨#[]⟩,.bool false,.bool false,.int .i64 0,.bool false,.int .i64 0,.bool false,.int .i64 0]),oN (.store 15 t1 t8),oM 2 t9]) (.seq (rg 4 [oP 11 (.load (some 15) t1),oP 12 (.call 8 [t11,(vI 5)]),oM 10 t12,oP 13 (.extract t10 0),oP 14 (.extract t10 1),oP 3 (.alloc 42 [.bool false,.int .i64 0,.int .i64 0]),oN (.store 3 t3 t13),oM 4 t14]) (.seq (rg 0 [oP 15 (.bslice 9 1 1 [.string ⟨#[]⟩] [(0,(.v (.string ⟨#[110]⟩)))]),oP 16 (.build [.slice none 0 0,.string ⟨#[]⟩,.bool false,.string ⟨#[]⟩,.bool false,.string ⟨#[]⟩,.bool false,.int .i64 0,.slice none 0 0] [(1,1,(.v (.string ⟨#[97]⟩))),(2,1,vT),(3,1,(.v (.string ⟨#[121]⟩))),(4,1,vT),(8,1,t15)]),oP 5 (.alloc 46 [.slice none 0 0,.string ⟨#[]⟩,.bool false,.string ⟨#[]⟩,.bool false,.string ⟨#[]⟩,.bool false,.int .i64 0,.slice none 0 0]),oN (.store 9 t5 t16)]) (.seq (.seq (rg 43 [oM 17 t2,oP 18 (.bi .neq t17 (vI 0)),oM 19 t18,oE 20 (.mv t4) 19,oE 21 (.bi .neq t20 (vI 0)) 19,oP 22 (.pick t19 vT t21),oM 23 t22,oE 24 (.faddr 5 t1) 23,oE 25 (.load none t24) 23,oE 26 (.len t25) 23,oE 27 (.bi .neq t26 (vI 2)) 23,oP 28 (.pick t23 vT t27),oM 29 t28,oE 30 (.faddr 9 t1) 29,oE 31 (.faddr 0 t30) 29,oE 32 (.load none t31) 29,oE 33 (.un .not t32) 29,oP 34 (.pick t29 vT t33),oM 35 t34,oE 36 (.faddr 0 t3) 35,oE 37 (.load none t36) 35,oP 38 (.pick t35 vT t37),oM 39 t38,oE 40 (.faddr 2 t3) 39,oE 41 (.load none t40) 39,oE 42 (.bi .neq t41 (vI 14)) 39,oP 43 (.pick t39 vT t42)]) (.cond t43 (.seq (rg 0 [oP 0 (.mv vF)]) (.cn [0] .ret)) .skip)) (.seq (rg 0 [oP 44 (.load (some 15) t1),oP 45 (.load (some 9) t5),oP 46 (.call 9 [t44,t45]),oP 47 (.bi .eql t46 (vI 0)),oM 48 t47,oF 49 (.load (some 15) t1) 48,oF 50 (.build [.slice none 0 0,.string ⟨#[]⟩,.bool false,.string ⟨#[]⟩,.bool false,.string ⟨#[]⟩,.bool false,.int .i64 0,.slice none 0 0] []) 48,oF 51 (.call 9 [t49,t50]) 48,oF 52 (.bi .eql t51 (vI 133)) 48,oP 53 (.pick t48 t52 vF),oM 54 t53,oF 55 (.load (some 15) t1) 54,oF 56 (.call 10 [t55,(vI 5),(vI 14)]) 54,oF 57 (.bi .eql t56 (vI 0)) 54,oP 58 (.pick t54 t57 vF),oM 59 t58,oF 60 (.load (some 15) t1) 59,oF 61 (.call 10 [t60,(vI 5),(vI 15)]) 59,oF 62 (.bi .eql t61 (vI 134)) 59,oP 63 (.pick t59 t62 vF),oM 0 t63]) (.cn [0] .ret)))))))
def zbm_s:Option Bool :=
 (zad_s (⟨#[123,34,105,115,115,34,58,34,97,34,44,34,97,117,100,34,58,91,34,120,34,44,34,121,34,93,44,34,101,120,112,34,58,49,48,44,34,110,34,58,49,125]⟩:BA)).bind λr1 =>(zac_s r1.1 (5:Int)).bind λr2 =>bif((((((!decide (r1.2=(0:Int))) || (!decide (r2.2=(0:Int)))) || (!decide ((r1.1.aud.length:Int)=(2:Int)))) || (!r1.1.exp_.has)) || r2.1.empty) || (!decide (r2.1.to_=(14:Int)))) then(some false) else((zaa_s r1.1 (⟨[],(⟨#[97]⟩:BA),true,(⟨#[121]⟩:BA),true,(⟨#[]⟩:BA),false,(0:Int),[(⟨#[110]⟩:BA)]⟩:qHb)).bind λr3 =>bif decide (r3=(0:Int)) then((zaa_s r1.1 (⟨[],(⟨#[]⟩:BA),false,(⟨#[]⟩:BA),false,(⟨#[]⟩:BA),false,(0:Int),[]⟩:qHb)).bind λr4 =>bif decide (r4=(133:Int)) then((zab_s r1.1 (5:Int) (14:Int)).bind λr5 =>bif decide (r5=(0:Int)) then((zab_s r1.1 (5:Int) (15:Int)).bind λr6 =>some (decide (r6=(134:Int)))) else(some false)) else(some false)) else(some false))
def zbm_c:CS:=mkC (dNil:Dec Unit (List SV)) dNil (λx y=>zbm_s) (λx y r=>.c (.o (.vB r))) λx y r=>[]
theorem zbm_val:qAj Tryd.prog 4 zbm_c:=vl0 zbm_q [.tmp 0] 64 6 0 [(5,zad_w),(8,zac_w),(9,zaa_w),(10,zab_w)] ⟨zad_ok,zac_ok,zaa_ok,zab_ok,tV⟩ λx y=>by
 simp only[zbm_s,-eq_self,sZ];kernel_rfl
def zbm_w:CQ:=qDp [] zbm_c
theorem zbm_ok:qAh Tryd.prog 4 zbm_w:=qA9 zbm_val
end
def plP(a b:Int):Int:=if 0<b/\9223372036854775807 - b<a then 9223372036854775807 else if b<0/\a < -9223372036854775808 - b then -9223372036854775808 else a+b
theorem plus_is{a b:Int}(ha:qAc a)(hb : -601<=b/\b<=601):zaf_s a b=some (plP a b):=by
 unfold qAc at ha;unfold zaf_s plP;rw[qAb (λh=>by rw[decide_eq_true_eq] at h;unfold qAc;omega)];by_cases h1:0<b/\9223372036854775807 - b<a
 ·rw[if_pos h1,deT h1.1,deT h1.2];rfl
 ·rw[if_neg h1];have e1:(decide (0<b) && decide (9223372036854775807 - b<a))=false:=by
   rw[Bool.eq_false_iff];intro h;rw[Bool.and_eq_true,decide_eq_true_eq,decide_eq_true_eq] at h;exact h1 h
  rw[e1,cnF,qAb (λh=>by rw[decide_eq_true_eq] at h;unfold qAc;omega)];by_cases h2:b<0/\a < -9223372036854775808 - b
  ·rw[if_pos h2,deT h2.1,deT h2.2];rfl
  ·rw[if_neg h2];have e2:(decide (b<0) && decide (a < -9223372036854775808 - b))=false:=by
    rw[Bool.eq_false_iff];intro h;rw[Bool.and_eq_true,decide_eq_true_eq,decide_eq_true_eq] at h;exact h2 h
   rw[e2,cnF];exact qAb (by unfold qAc;omega) _
def expB(c:qGv)(L now:Int):Bool:=c.exp_.has && decide (c.exp_.at_<=now - L)
def nbfB(c:qGv)(L now:Int):Bool:=c.nbf.has && decide (now+L<c.nbf.at_)
def iatB(c:qGv)(L now:Int):Bool:=c.iat.has && decide (now+L<c.iat.at_)
def clP(c:qGv)(L now:Int):Int:=bif expB c L now then 134 else bif nbfB c L now then 135 else bif iatB c L now then 136 else 0
structure OkC (c:qGv):Prop where
 e:qAc c.exp_.at_
 n:qAc c.nbf.at_
 i:qAc c.iat.at_
theorem late_is{x:qG0}(hx:qAc x.at_){L now:Int}(hL:0<=L/\L<=600)(hn:qAc now):(x.has && (decide (now<plP x.at_ (0 - L))))=(x.has && decide (now+L<x.at_)):=by
 congr 1
 unfold qAc at hx hn;unfold plP;apply Bool.eq_iff_iff.2;rw[decide_eq_true_eq,decide_eq_true_eq];split
 ·omega
 ·split <;> omega
theorem clock_is{c:qGv}(hc:OkC c){L now:Int}(hL:0<=L/\L<=600)(hn:qAc now):zab_s c L now=some (clP c L now):=by
 have he:=hc.e;have hn':=hn;have l1:=late_is hc.n hL hn;have l2:=late_is hc.i hL hn;unfold qAc at he hn';unfold zab_s;rw[deF (show ¬L<0 by omega),deF (show ¬600<L by omega),Bool.or_self,cnF,qAb (λ_=>by unfold qAc;omega),plus_is hn (by omega),obS,qAb (λ_=>by unfold qAc;omega),plus_is hc.n (by omega),plus_is hc.i (by omega)];have e1:((c.exp_.has && (decide (c.exp_.at_<=plP now (0 - L)))) && (!((decide (now<((-9223372036854775808:Int)+L))) && (decide (c.exp_.at_=(-9223372036854775808:Int))))))=expB c L now:=by
  unfold expB;rw[Bool.and_assoc];congr 1
  unfold plP;apply Bool.eq_iff_iff.2;rw[Bool.and_eq_true,decide_eq_true_eq,decide_eq_true_eq,Bool.not_eq_true',Bool.and_eq_false_iff,decide_eq_false_iff_not,decide_eq_false_iff_not];split
  ·omega
  ·split <;> omega
 rw[e1];unfold clP nbfB iatB;rw[<-l1,<-l2];cases expB c L now with
 | true=>rfl
 | false =>
  rw[cnF,cnF,qAb (λ_=>by unfold qAc;omega),qAb (λ_=>by unfold qAc;omega)];cases c.nbf.has <;> cases c.iat.has <;> simp only[cnT,cnF,Bool.true_and,Bool.false_and,obS] <;> (try rfl)
  ·cases decide (now<plP c.iat.at_ (0 - L)) <;> rfl
  ·cases decide (now<plP c.nbf.at_ (0 - L)) <;> rfl
  ·cases decide (now<plP c.nbf.at_ (0 - L)) <;> cases decide (now<plP c.iat.at_ (0 - L)) <;> rfl
def mx(a b:Int):Int:=if b > a then b else a
def qGe(c:qGv)(L:Int):Int :=
 bif c.iat.has then mx (bif c.nbf.has then mx (-9223372036854775808) (plP c.nbf.at_ (0 - L)) else -9223372036854775808) (plP c.iat.at_ (0 - L)) else bif c.nbf.has then mx (-9223372036854775808) (plP c.nbf.at_ (0 - L)) else -9223372036854775808
theorem open_p1{c:qGv}(hc:OkC c){L:Int}(hL:0<=L/\L<=600):zac_p1 L (-9223372036854775808) ([(⟨c.nbf.has,c.nbf.at_⟩:Eng.Tm),(⟨c.iat.has,c.iat.at_⟩:Eng.Tm)].length:Int) 0 [(⟨c.nbf.has,c.nbf.at_⟩:Eng.Tm),(⟨c.iat.has,c.iat.at_⟩:Eng.Tm)]=some (qGe c L):=by
 rw[show([(⟨c.nbf.has,c.nbf.at_⟩:Eng.Tm),(⟨c.iat.has,c.iat.at_⟩:Eng.Tm)].length:Int)=2 from rfl];unfold zac_p1;rw[qAm (y:=((bif c.nbf.has then mx (-9223372036854775808) (plP c.nbf.at_ (0 - L)) else -9223372036854775808),(1:Int))),qAm (y:=(qGe c L,(2:Int))),qAg (o:=qGe c L)]
 ·rfl
 ·unfold qFa;dsimp only;rw[deT (by decide),cnT];refine(qAb (show(0:Int)<=1/\(1:Int)<2 by decide) _).trans ((qAb (show(1:Nat)<2 by decide) _).trans ?_);show(bif c.iat.has then gd (qAc (0 - L)) ((zaf_s c.iat.at_ (0 - L)).bind _) else _)=_;unfold qGe;cases c.iat.has with
  | true =>
   rw[cnT,cnT,qAb (by unfold qAc;omega),plus_is hc.i (by omega),obS];exact qAb (by unfold qAc;decide) _
  | false=>exact qAb (by unfold qAc;decide) _
 ·unfold qFa;dsimp only;rw[deT (by decide),cnT];refine(qAb (show(0:Int)<=0/\(0:Int)<2 by decide) _).trans ((qAb (show(0:Nat)<2 by decide) _).trans ?_);show(bif c.nbf.has then gd (qAc (0 - L)) ((zaf_s c.nbf.at_ (0 - L)).bind _) else _)=_;cases c.nbf.has with
  | true =>
   rw[cnT,cnT,qAb (by unfold qAc;omega),plus_is hc.n (by omega),obS];exact qAb (by unfold qAc;decide) _
  | false=>exact qAb (by unfold qAc;decide) _
theorem open_is{c:qGv}(hc:OkC c){L:Int}(hL:0<=L/\L<=600):∃w:qHa,zac_s c L=some (w,0) /\
  ((w=⟨true,0,0⟩/\∀now,qAc now->clP c L now≠0)\/(w.empty=false/\qAc w.from_/\qAc w.to_/\w.from_<=w.to_/\(∀now,qAc now->(clP c L now=0↔w.from_<=now/\now<=w.to_))/\(w.to_<9223372036854775807->clP c L (w.to_+1)=134))):=by
 have cz:∀now,clP c L now=0↔expB c L now=false/\nbfB c L now=false/\iatB c L now=false:=λnow=>by
  unfold clP;cases expB c L now <;> cases nbfB c L now <;> cases iatB c L now <;> decide
 have hfr:qAc (qGe c L)/\∀now,qAc now->((nbfB c L now=false/\iatB c L now=false)↔qGe c L<=now):=by
  have h1:=hc.n;have h2:=hc.i;unfold qAc at h1 h2 ⊢;unfold nbfB iatB qGe mx plP;cases c.nbf.has <;> cases c.iat.has <;> simp only[cnT,cnF,Bool.true_and,Bool.false_and,decide_eq_false_iff_not,true_and,and_true]
  ·exact⟨by omega,λnow hn=>⟨λ_=>by omega,λ_=>trivial⟩⟩
  ·refine⟨?_,λnow hn=>?_⟩
   ·repeat' split
    all_goals omega
   ·repeat' split
    all_goals omega
  ·refine⟨?_,λnow hn=>?_⟩
   ·repeat' split
    all_goals omega
   ·repeat' split
    all_goals omega
  ·refine⟨?_,λnow hn=>?_⟩
   ·repeat' split
    all_goals omega
   ·repeat' split
    all_goals omega
 have p0:∀hi:Int,zac_p0 L (-9223372036854775808) hi c.nbf.has c.nbf.at_ c.iat.has c.iat.at_=some (if hi<qGe c L then(0,true,0,0) else(0,false,qGe c L,hi)):=λhi=>by
  unfold zac_p0;rw[open_p1 hc hL,obS];by_cases h:hi<qGe c L
  ·rw[deT h,if_pos h];rfl
  ·rw[deF h,if_neg h];rfl
 have fin:∀hi:Int,qAc hi->(∀now,qAc now->(expB c L now=false↔now<=hi))->(hi<9223372036854775807->expB c L (hi+1)=true)->∃w:qHa,some ((⟨(if hi<qGe c L then(0,true,0,0) else(0,false,qGe c L,hi):Int × Bool × Int × Int).2.1,(if hi<qGe c L then(0,true,0,0) else(0,false,qGe c L,hi):Int × Bool × Int × Int).2.2.1,(if hi<qGe c L then(0,true,0,0) else(0,false,qGe c L,hi):Int × Bool × Int × Int).2.2.2⟩:qHa),(if hi<qGe c L then(0,true,0,0) else(0,false,qGe c L,hi):Int × Bool × Int × Int).1)=some (w,(0:Int)) /\
   ((w=⟨true,0,0⟩/\∀now,qAc now->clP c L now≠0)\/(w.empty=false/\qAc w.from_/\qAc w.to_/\w.from_<=w.to_/\(∀now,qAc now->(clP c L now=0↔w.from_<=now/\now<=w.to_))/\(w.to_<9223372036854775807->clP c L (w.to_+1)=134))):=λhi hto hex hnx=>by
  by_cases h:hi<qGe c L
  ·rw[if_pos h];refine⟨_,rfl,.inl ⟨rfl,λnow hn h0=>?_⟩⟩;obtain⟨a1,a2⟩:=(cz now).1 h0;have b1:=(hex now hn).1 a1;have b2:=(hfr.2 now hn).1 a2;omega
  ·rw[if_neg h];refine⟨_,rfl,.inr ⟨rfl,hfr.1,hto,by show qGe c L<=hi;omega,λnow hn=>?_,λh=>?_⟩⟩
   ·rw[cz,hex now hn,hfr.2 now hn];exact And.comm
   ·show clP c L (hi+1)=134;unfold clP;rw[hnx h];rfl
 have he:=hc.e;unfold zac_s;rw[deF (show ¬L<0 by omega),deF (show ¬600<L by omega),Bool.or_self,cnF];cases hh:c.exp_.has with
 | true =>
  rw[cnT];by_cases h0:c.exp_.at_ = -9223372036854775808/\L=0
  ·rw[deT h0.1,deT h0.2,Bool.and_self,cnT];refine⟨_,rfl,.inl ⟨rfl,λnow hn hz=>?_⟩⟩;have:=((cz now).1 hz).1;unfold expB at this;rw[hh,Bool.true_and,decide_eq_false_iff_not] at this;unfold qAc at hn;omega
  ·have e1:(decide (c.exp_.at_ = -9223372036854775808) && decide (L=0))=false:=by
    rw[Bool.eq_false_iff];intro h;rw[Bool.and_eq_true,decide_eq_true_eq,decide_eq_true_eq] at h;exact h0 h
   rw[e1,cnF,qAb (by unfold qAc;omega),plus_is he (by omega),obS,p0,obS];unfold qAc at he;refine fin _ ?_ (λnow hn=>?_) λh=>?_
   ·unfold plP qAc;repeat' split
    all_goals omega
   ·unfold expB plP;unfold qAc at hn;rw[hh,Bool.true_and,decide_eq_false_iff_not];repeat' split
    all_goals omega
   ·unfold expB;rw[hh,Bool.true_and,decide_eq_true_eq];unfold plP at h ⊢;revert h;repeat' split
    all_goals omega
 | false =>
  rw[cnF,p0,obS];refine fin _ (by unfold qAc;decide) (λnow hn=>?_) λh=>by omega
  unfold expB;unfold qAc at hn;rw[hh,Bool.false_and];exact⟨λ_=>by omega,λ_=>rfl⟩
theorem getD_str{l:List BA}{i:Nat}(h:i<l.length):l.getD i (ET.dft .str)=l[i]:=by simp[List.getD,h]
theorem index_loop(v:BA)(l:List BA)(hl:l.length<=3000000):∀(j i:Nat),i+j=l.length ->
  (∃k:Nat,zbs_p0 v (l.length:Int) (i:Int) l=some (.inl (k:Int))/\v∈l.drop i)\/(zbs_p0 v (l.length:Int) (i:Int) l=some (.inr ())/\¬v∈l.drop i)
 | 0,i,h=>by
  refine .inr ⟨?_,?_⟩
  ·unfold zbs_p0;refine qAg ?_;unfold qC4;rw[deF (by omega),cnF]
  ·rw[List.drop_eq_nil_of_le (by omega)];exact λh=>by cases h
 | j+1,i,h=>by
  have hi:i<l.length:=by omega
  have hd:l.drop i=l[i]::l.drop (i+1):=List.drop_eq_getElem_cons hi;by_cases he:v=l[i]
  ·refine .inl ⟨i,?_,?_⟩
   ·unfold zbs_p0;refine qAg ?_;unfold qC4;rw[deT (by omega),cnT,qAb (by omega),qAb (by omega),Int.toNat_natCast,getD_str hi,deT he,cnT]
   ·rw[hd,he];exact List.mem_cons_self
  ·have hst:qC4 v (l.length:Int) (i:Int) l=some (.inl ((i+1:Nat):Int)):=by
    unfold qC4;rw[deT (by omega),cnT,qAb (by omega),qAb (by omega),Int.toNat_natCast,getD_str hi,deF he,cnF];exact qAb (by unfold qAc;omega) _
   have hm:v∈l.drop i↔v∈l.drop (i+1):=by rw[hd,List.mem_cons];simp[he]
   have ih:=index_loop v l hl j (i+1) (by omega);rw[hm];unfold zbs_p0 at ih ⊢;rw[qAm hst];exact ih
noncomputable def inB(l:List BA)(v:BA):Bool:=(zbr_s l v).getD false
theorem contains_is(l:List BA)(hl:l.length<=3000000)(v:BA):zbr_s l v=some (inB l v)/\(inB l v=true↔v∈l):=by
 have h:=index_loop v l hl l.length 0 (by omega);rw[List.drop_zero,show((0:Nat):Int)=0 from rfl] at h;have key:∃b,zbr_s l v=some b/\(b=true↔v∈l):=by
  unfold zbr_s zbs_s;rcases h with⟨k,h,hm⟩ | ⟨h,hm⟩
  ·refine⟨true,?_,λ_=>hm,λ_=>rfl⟩;rw[h,obS,Sum.elim_inl,obS,deT (by omega)]
  ·refine⟨false,?_,λh=>(by cases h),λh=>(hm h).elim⟩;rw[h,obS,Sum.elim_inr,obS,deF (by omega)]
 obtain⟨b,h1,h2⟩:=key;have:inB l v=b:=by unfold inB;rw[h1];rfl
 rw[this];exact⟨h1,h2⟩
theorem need_is{v:List Eng.Node}{m:BA->Int}(hm:∀n,zao_s v 0 n=some (m n))(l:List BA)(hl:l.length<=3000000):∀(j i:Nat),i+j=l.length ->
  zaa_p0 (l.length:Int) (i:Int) v l=some (if(l.drop i).all (λn=>decide (0<=m n))=true then .inr () else .inl 137)
 | 0,i,h=>by
  rw[List.drop_eq_nil_of_le (by omega)];unfold zaa_p0;refine qAg ?_;unfold qDw;rw[deF (by omega),cnF];rfl
 | j+1,i,h=>by
  have hi:i<l.length:=by omega
  have hd:l.drop i=l[i]::l.drop (i+1):=List.drop_eq_getElem_cons hi;rw[hd,List.all_cons];by_cases hr:m l[i]<0
  ·rw[deF (show ¬0<=m l[i] by omega),Bool.false_and,if_neg (by decide)];unfold zaa_p0;refine qAg ?_;unfold qDw;rw[deT (by omega),cnT,qAb (by omega),qAb (by omega),Int.toNat_natCast,getD_str hi,hm,obS,deT hr,cnT]
  ·rw[deT (show 0<=m l[i] by omega),Bool.true_and,<-need_is hm l hl j (i+1) (by omega)];unfold zaa_p0;rw[qAm (y:=((i+1:Nat):Int))];unfold qDw;rw[deT (by omega),cnT,qAb (by omega),qAb (by omega),Int.toNat_natCast,getD_str hi,hm,obS,deF hr,cnF];exact qAb (by unfold qAc;omega) _
noncomputable def chP(m:BA->Int)(c:qGv)(p:qHb):Int :=
 bif !(p.need.all λn=>decide (0<=m n)) then 137 else bif p.hasIss && !(c.hasIss && decide (c.iss=p.iss)) then 132 else bif p.hasAud then(bif c.hasAud && inB c.aud p.aud then 0 else 133) else bif c.hasAud then 133 else 0
theorem check_is{c:qGv}{p:qHb}{m:BA->Int}(hm:∀n,zao_s c.value 0 n=some (m n))(h2:c.aud.length<=3000000)(h3:p.need.length<=3000000):zaa_s c p=some (chP m c p):=by
 have h:=need_is hm p.need h3 p.need.length 0 (by omega);rw[List.drop_zero,show((0:Nat):Int)=0 from rfl] at h;unfold zaa_s chP;rw[h,obS,(contains_is c.aud h2 p.aud).1];cases (p.need.all λn=>decide (0<=m n)) with
 | false=>rfl
 | true =>
  rw[if_pos rfl,Sum.elim_inr,Bool.not_true,cnF];cases (p.hasIss && !(c.hasIss && decide (c.iss=p.iss))) with
  | true=>rfl
  | false =>
   rw[cnF,cnF];cases p.hasAud <;> cases c.hasAud <;> try rfl
   cases inB c.aud p.aud <;> rfl
theorem p_parse_ok{t:BA}{l:List Eng.Node}{L:List Nat}(hs:t.size<=262144)(hr:readR t=.ok t.size l)(h7:(l.getD 0 (ET.dft .node)).kind=7)(hO:Obj l L)(hkd:∀n∈l,1<=n.kind/\n.kind<=7)(hL:L.length<=2000000)(hall:L.all (goodB l)=true):zad_s t=some (fullC l L,0):=by
 have hp:parseR t=(l,0,0):=by
  unfold parseR;rw[if_neg (by omega),hr];rfl
 have hlt:=hO.ne;have hlp:=claims_loop hO hkd hL L [] rfl;have hlp':zad_p0 ((upN L).length:Int) 0 l ⟨#[]⟩ false ⟨#[]⟩ false false ⟨#[]⟩ false false 0 false 0 false 0 (upN L) [] []=some (if L.all (goodB l)=true then .inr (tupC (cOf l L)) else .inl (131,⟨#[]⟩,false,⟨#[]⟩,false,false,⟨#[]⟩,false,false,0,false,0,false,0,[],[])):=hlp;unfold zad_s;rw[p_Parse,obS,hp];dsimp only;rw[deT rfl,Bool.not_true,cnF,qAb (by omega),qAb (by omega),qAb (by omega)];rw[show Int.toNat 0=0 from rfl,deT h7,Bool.not_true,cnF,hO.kids,obS,hlp',obS,if_pos hall];rfl
def awT:BA:=⟨#[123,34,105,115,115,34,58,34,97,34,44,34,97,117,100,34,58,91,34,120,34,44,34,121,34,93,44,34,101,120,112,34,58,49,48,44,34,110,34,58,49,125]⟩
def awV:List Eng.Node:=[⟨7,⟨#[]⟩,⟨#[]⟩,false,0,4⟩,⟨5,nIss,⟨#[97]⟩,false,0,0⟩,⟨6,nAud,⟨#[]⟩,false,0,2⟩,⟨5,⟨#[]⟩,⟨#[120]⟩,false,0,0⟩,⟨5,⟨#[]⟩,⟨#[121]⟩,false,0,0⟩,⟨4,nExp,⟨#[49,48]⟩,true,10,0⟩,⟨4,⟨#[110]⟩,⟨#[49]⟩,true,1,0⟩]
def awC:qGv:=⟨awV,⟨#[97]⟩,true,⟨#[]⟩,false,[⟨#[120]⟩,⟨#[121]⟩],true,⟨#[]⟩,false,⟨true,10⟩,⟨false,0⟩,⟨false,0⟩⟩
theorem aw_read:readR awT=.ok awT.size awV:=by kernel_rfl
theorem aw_size:awT.size=42:=by decide
theorem aw_all{p:Eng.Node->Prop}(h:∀n,n=awV.getD 0 (ET.dft .node)\/n=awV.getD 1 (ET.dft .node)\/n=awV.getD 2 (ET.dft .node)\/n=awV.getD 3 (ET.dft .node)\/n=awV.getD 4 (ET.dft .node)\/n=awV.getD 5 (ET.dft .node)\/n=awV.getD 6 (ET.dft .node)->p n):∀n∈awV,p n:=λn hn=>by
 refine h n ?_;simp only[awV,List.mem_cons,List.not_mem_nil,or_false] at hn;exact hn
theorem aw_kind:∀n∈awV,1<=n.kind/\n.kind<=7:=aw_all λn hn=>by
 rcases hn with rfl | rfl | rfl | rfl | rfl | rfl | rfl <;> decide
theorem aw_ok:OkL awV:=⟨by decide,aw_all λn hn=>by
 rcases hn with rfl | rfl | rfl | rfl | rfl | rfl | rfl <;> exact⟨by decide,by decide,by unfold qAc;decide⟩⟩
theorem aw_tree:Tree awV 0 7:=readR_tree aw_read
theorem aw_leaf{a:Nat}{n:Eng.Node}(h:awV[a]?=some n)(h0:n.kids=0):Tree awV a (a+1):=Tree.mk h (by omega) (by
 rw[h0];exact Trees.nil _ (by have:=(List.getElem?_eq_some_iff.1 h).1;omega))
theorem aw_two:Trees awV 2 3 5:=Trees.app (aw_leaf (a:=3) rfl rfl) (aw_leaf (a:=4) rfl rfl)
theorem aw_aud:Tree awV 2 5:=Tree.mk (n:=⟨6,nAud,⟨#[]⟩,false,0,2⟩) rfl (by decide) aw_two
theorem aw_pl:qDg awV 4 1 [1,2,5,6] 7:=⟨2,[2,5,6],rfl,aw_leaf (a:=1) rfl rfl,5,[5,6],rfl,aw_aud,6,[6],rfl,aw_leaf (a:=5) rfl rfl,7,[],rfl,aw_leaf (a:=6) rfl rfl,rfl,rfl⟩
theorem aw_pl2:qDg awV 2 3 [3,4] 5:=⟨4,[4],rfl,aw_leaf (a:=3) rfl rfl,5,[],rfl,aw_leaf (a:=4) rfl rfl,rfl,rfl⟩
theorem aw_sub:subP awV 2=[3,4]:=by
 unfold subP;rw[j_kids (a:=2) (nd:=⟨6,nAud,⟨#[]⟩,false,0,2⟩) aw_ok.1 rfl (by decide) aw_two aw_pl2];exact upN_back _
theorem aw_obj:Obj awV [1,2,5,6]:=by
 obtain⟨nd,h1,h2,h3⟩:=aw_tree.node;obtain rfl:nd=⟨7,⟨#[]⟩,⟨#[]⟩,false,0,4⟩:=by cases h1;rfl
 refine⟨aw_ok,?_,⟨_,_,h1,h2,rfl,h3,aw_pl⟩,places_tree aw_pl,?_,λkey=>?_,rfl,by decide⟩
 ·have hk:=j_kids aw_ok.1 h1 h2 h3 aw_pl;rwa [show((0:Nat):Int)=0 from rfl] at hk
 ·unfold Uniq Uniq Uniq Uniq Uniq qBu;decide
 ·have:=j_member aw_ok.1 h1 h2 h3 aw_pl key;rw[if_pos rfl,show((0:Nat):Int)=0 from rfl] at this;exact this
theorem aw_good:[1,2,5,6].all (goodB awV)=true:=by
 have g2:goodB awV 2=true:=by
  show audB awV 2=true;unfold audB;rw[if_pos (show(awV.getD 2 (ET.dft .node)).kind=6 from rfl),aw_sub];rfl
 simp only[List.all_cons,List.all_nil,Bool.and_true,Bool.and_eq_true];exact⟨rfl,g2,rfl,rfl⟩
theorem aw_full:fullC awV [1,2,5,6]=awC:=by
 have ha:audO awV (qCg awV nAud [1,2,5,6])=[⟨#[120]⟩,⟨#[121]⟩]:=by
  show audO awV (some 2)=_;rw[audO_six (show(awV.getD 2 (ET.dft .node)).kind=6 from rfl),aw_sub];rfl
 unfold fullC cOf;dsimp only;rw[ha];rfl
theorem aw_parse:zad_s awT=some (awC,0):=by
 rw[p_parse_ok (by rw[aw_size];decide) aw_read rfl aw_obj aw_kind (by decide) aw_good,aw_full]
theorem aw_okC:OkC awC:=⟨by unfold qAc;decide,by unfold qAc;decide,by unfold qAc;decide⟩
theorem awake_is:zbm_s=some true:=by
 have hm:∀n,zao_s awC.value 0 n=some (memI (qCg awV n [1,2,5,6])):=λn=>aw_obj.mem n
 have c1:=check_is (c:=awC) (p:=⟨[],⟨#[97]⟩,true,⟨#[121]⟩,true,⟨#[]⟩,false,0,[⟨#[110]⟩]⟩) hm (by decide) (by decide);have c2:=check_is (c:=awC) (p:=⟨[],⟨#[]⟩,false,⟨#[]⟩,false,⟨#[]⟩,false,0,[]⟩) hm (by decide) (by decide);have hin:inB awC.aud ⟨#[121]⟩=true:=(contains_is awC.aud (by decide) ⟨#[121]⟩).2.2 (List.mem_cons_of_mem _ List.mem_cons_self);have e1:chP (λn=>memI (qCg awV n [1,2,5,6])) awC ⟨[],⟨#[97]⟩,true,⟨#[121]⟩,true,⟨#[]⟩,false,0,[⟨#[110]⟩]⟩=0:=by
  unfold chP;rw[show inB awC.aud (⟨[],⟨#[97]⟩,true,⟨#[121]⟩,true,⟨#[]⟩,false,0,[⟨#[110]⟩]⟩:qHb).aud=true from hin];rfl
 have e2:chP (λn=>memI (qCg awV n [1,2,5,6])) awC ⟨[],⟨#[]⟩,false,⟨#[]⟩,false,⟨#[]⟩,false,0,[]⟩=133:=rfl;rw[e1] at c1;rw[e2] at c2;have k1:=clock_is aw_okC (L:=5) (now:=14) (by decide) (by unfold qAc;decide);have k2:=clock_is aw_okC (L:=5) (now:=15) (by decide) (by unfold qAc;decide);have z1:clP awC 5 14=0:=rfl;have z2:clP awC 5 15=134:=rfl;obtain⟨w,o1,o2⟩:=open_is aw_okC (L:=5) (by decide);have hw:w.empty=false/\w.to_=14:=by
  rcases o2 with⟨_,h⟩ | ⟨h1,h2,h3,h4,h5,_⟩
  ·exact(h 14 (by unfold qAc;decide) z1).elim
  ·have q1:=(h5 14 (by unfold qAc;decide)).1 z1;have q2:¬(w.from_<=15/\15<=w.to_):=λh=>by
    have:=(h5 15 (by unfold qAc;decide)).2 h;rw[z2] at this;cases this
   exact⟨h1,by omega⟩
 unfold zbm_s;rw[show(⟨#[123,34,105,115,115,34,58,34,97,34,44,34,97,117,100,34,58,91,34,120,34,44,34,121,34,93,44,34,101,120,112,34,58,49,48,44,34,110,34,58,49,125]⟩:BA)=awT from rfl,aw_parse,obS];dsimp only;rw[o1,obS];dsimp only;rw[hw.1,hw.2,c1,c2,k1,k2,z1,z2];rfl
end Go.Proofs.YtbokbmjcodoccacDoor
