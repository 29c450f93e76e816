/-
  Texts of a claim.
-/
import Derived.Test.YtbokbmjcodoccabDoorEngO
import Derived.Test.YtbokbmjcodoccabDoorProg
set_option linter.unusedSimpArgs false
set_option linter.unusedVariables false
namespace Go.Proofs.YtbokbmjcodoccabDoor
open Go.Eng
set_option maxRecDepth 100000
noncomputable section
structure decimal_number where
 minus:Bool
 whole:BA
 digits:BA
 point:Int
 plain:Bool
 down:Bool
 exp_:BA
structure qH9 where
 minus:Bool
 digits:(List Int)
 off:Int
 down:Bool
 exp_:(List Int)
 plain:Bool
 text:BA
def zae_q:IQ:=(.seq (rg 4 [oP 4 (.mv vF)]) (.seq (rg 4 [oM 5 t0,oP 6 (.lenS t5),oM 7 t1,oP 8 (.lenS t7),oP 9 (.bi .geq t6 t8),oM 10 t9,oF 11 (.mv t0) 10,oF 12 (.mv t1) 10,oF 13 (.lenS t12) 10,oF 14 (.sub none t11 none (some t13)) 10,oF 15 (.mv t1) 10,oF 16 (.bi .eql t14 t15) 10,oP 17 (.pick t10 t16 vF),oM 4 t17]) (.cn [4] .ret)))
def zae_s(s prefix_:BA):Option Bool :=
 gd ((decide ((prefix_.size:Int)<=(s.size:Int)))=true->0<=(0:Int)/\(0:Int)<=(prefix_.size:Int)/\(prefix_.size:Int)<=s.size)<|some ((decide ((prefix_.size:Int)<=(s.size:Int))) && (decide ((s.extract 0 (Int.toNat (prefix_.size:Int)))=prefix_)))
def zae_c:CS:=mkC (qAb (dVC (dCO dS)) (qAb (dVC (dCO dS)) dNil)) dNil (λx y=>zae_s x.1 x.2.1) (λx y r=>.c (.o (.vB r))) λx y r=>[]
theorem zae_val:qAi Tryd.prog 79 zae_c:=vl0 zae_q [.tmp 4] 18 5 0 [] trivial λx y=>by
 simp only[zae_s,-eq_self,sZ];kernel_rfl
def zae_w:CQ:=qDx [] zae_c
theorem zae_ok:qAg Tryd.prog 79 zae_w:=qAs zae_val
def zad_q:IQ:=(.seq (rg 5 [oP 4 (.mv (.v (.string ⟨#[]⟩))),oP 5 (.mv vF)]) (.seq (.seq (rg 9 [oM 6 t0,oM 7 t1,oP 8 (.call 79 [t6,t7]),oP 9 (.un .not t8)]) (.cond t9 (.seq (rg 5 [oM 10 t0,oM 4 t10,oP 5 (.mv vF)]) (.cn [4,5] .ret)) .skip)) (.seq (rg 5 [oM 11 t0,oM 12 t1,oP 13 (.lenS t12),oP 14 (.sub none t11 (some t13) none),oM 4 t14,oP 5 (.mv vT)]) (.cn [4,5] .ret))))
def zad_s(s prefix_:BA):Option (BA × Bool) :=
 (zae_s s prefix_).bind λr1 =>bif(!r1) then(some (s,false)) else(gd (0<=(prefix_.size:Int)/\(prefix_.size:Int)<=(s.size:Int)/\(s.size:Int)<=s.size)<|some ((s.extract (Int.toNat (prefix_.size:Int)) s.size),true))
def zad_c:CS:=mkC (qAb (dVC (dCO dS)) (qAb (dVC (dCO dS)) dNil)) dNil (λx y=>zad_s x.1 x.2.1) (λx y r=>.tup [.o (.vS r.1),.o (.vB r.2)]) λx y r=>[]
theorem zad_val:qAi Tryd.prog 71 zad_c:=vl0 zad_q [.tmp 4,.tmp 5] 15 6 0 [(79,zae_w)] ⟨zae_ok,tV⟩ λx y=>by
 simp only[zad_s,-eq_self,sZ];kernel_rfl
def zad_w:CQ:=qDx [] zad_c
theorem zad_ok:qAg Tryd.prog 71 zad_w:=qAs zad_val
def zck_q:IQ:=(.seq (rg 5 [oP 4 (.mv (.v (.string ⟨#[]⟩))),oP 5 (.mv vF)]) (.seq (rg 5 [oM 6 t0,oM 7 t1,oP 8 (.call 71 [t6,t7]),oP 9 (.extract t8 0),oP 10 (.extract t8 1),oM 4 t9,oM 5 t10]) (.cn [4,5] .ret)))
def zck_s(s prefix_:BA):Option (BA × Bool) :=
 (zad_s s prefix_).bind λr1 =>some (r1.1,r1.2)
def zck_c:CS:=mkC (qAb (dVC (dCO dS)) (qAb (dVC (dCO dS)) dNil)) dNil (λx y=>zck_s x.1 x.2.1) (λx y r=>.tup [.o (.vS r.1),.o (.vB r.2)]) λx y r=>[]
theorem zck_val:qAi Tryd.prog 66 zck_c:=vl0 zck_q [.tmp 4,.tmp 5] 11 6 0 [(71,zad_w)] ⟨zad_ok,tV⟩ λx y=>by
 simp only[zck_s,-eq_self,sZ];kernel_rfl
def zck_w:CQ:=qDx [] zck_c
theorem zck_ok:qAg Tryd.prog 66 zck_w:=qAs zck_val
def zac_b0:IQ:=(.loop [0,3] (.seq (.seq (rg 19 [oM 4 t3,oM 5 t0,oP 6 (.lenS t5),oP 7 (.bi .lss t4 t6),oM 8 t7,oF 9 (.mv t0) 8,oF 10 (.mv t3) 8,oF 11 (.index t9 t10) 8,oF 12 (.bi .geq t11 (vC 48)) 8,oP 13 (.pick t8 t12 vF),oM 14 t13,oF 15 (.mv t0) 14,oF 16 (.mv t3) 14,oF 17 (.index t15 t16) 14,oF 18 (.bi .leq t17 (vC 57)) 14,oP 19 (.pick t14 t18 vF)]) (.cond t19 .skip (.cn [3] (.exit 0)))) (.block 1 (rg 3 [oM 20 t3,oP 21 (.bi .add t20 (vI 1)),oM 3 t21]))))
def zac_q:IQ:=(.seq (rg 2 [oP 2 (.mv (vI 0))]) (.seq (rg 3 [oP 3 (.mv (vI 0))]) (.seq (.block 0 (.cn [0,3] (.sub 0 zac_b0))) (.seq (rg 2 [oM 22 t3,oM 2 t22]) (.cn [2] .ret)))))
def zac_p0_step(s:BA)(n:Int):Option (Int ⊕ Int) :=
 gd ((decide (n<(s.size:Int)))=true->0<=n/\n<s.size)<|gd (((decide (n<(s.size:Int))) && (decide ((48:Int)<=(bAt s n))))=true->0<=n/\n<s.size)<|bif(((decide (n<(s.size:Int))) && (decide ((48:Int)<=(bAt s n)))) && (decide ((bAt s n)<=(57:Int)))) then(gd (qAc (n+(1:Int)))<|some (.inl (n+(1:Int)))) else(some (.inr n))
def zac_p0(s:BA)(n:Int):Option Int :=
 qAr (λx:Int=>zac_p0_step s x) n
def zac_s(s:BA):Option Int :=
 (zac_p0 s (0:Int)).bind λo1 =>some o1
def zac_G:Nat->Option CQ:=tblQ []
def zac_d0:=(dQS (qAb (dSO 0 dS) (qAb (dSO 3 dZ) dNil)) dNil)
def zac_l0:SubQ:=mkL zac_d0 (λx=>zac_p0 x.1.1 x.1.2.1) λx r R kn kx kr=>kx 0 ⟨[sL 3 (.vI r)],[],[]⟩
def zac_L:Nat->SubQ:=tblL [(0,zac_l0)]
theorem zac_sub0:qA3 zac_L zac_G 0 4 23 0 zac_b0:=qAj (show zac_L 0=zac_l0 from by kernel_rfl) λx R kn kx kr=>qAh (step:=λy=>zac_p0_step x.1.1 y) (enc:=λ(y:Int)=>zac_d0.e ((x.1.1,y,x.1.2.2),x.2)) (λy=>by kernel_rfl) (λy ki=>by simp only[zac_p0_step,-eq_self,sZ];kernel_rfl) x.1.2.1
def zac_c:CS:=mkC (qAb (dVC (dCO dS)) dNil) dNil (λx y=>zac_s x.1) (λx y r=>.c (.o (.vI r))) λx y r=>[]
theorem zac_val:qAi Tryd.prog 67 zac_c:=vl1 zac_q [.tmp 2] 23 4 0 (show qAt zac_L zac_G 0 4 23 [(0,zac_b0)] from⟨zac_sub0,tV⟩) (λf C h=>by cases h) λx y=>by
 simp only[zac_s,-eq_self,sZ];kernel_rfl
def zac_w:CQ:=qDx [] zac_c
theorem zac_ok:qAg Tryd.prog 67 zac_w:=qAs zac_val
def zcn_b0:IQ:=(.loop [0,1] (.seq (.seq (rg 13 [oM 5 t0,oP 6 (.lenS t5),oP 7 (.bi .gtr t6 (vI 0)),oM 8 t7,oF 9 (.mv t0) 8,oF 10 (.index t9 (vI 0)) 8,oF 11 (.mv t1) 8,oF 12 (.bi .eql t10 t11) 8,oP 13 (.pick t8 t12 vF)]) (.cond t13 .skip (.cn [0] (.exit 0)))) (.block 1 (rg 0 [oM 14 t0,oP 15 (.sub none t14 (some (vI 1)) none),oM 0 t15]))))
def zcn_q:IQ:=(.seq (rg 4 [oP 4 (.mv (.v (.string ⟨#[]⟩)))]) (.seq (.block 0 (.cn [0,1] (.sub 0 zcn_b0))) (.seq (rg 4 [oM 16 t0,oM 4 t16]) (.cn [4] .ret))))
def zcn_p0_step(s:BA)(c:Int):Option (BA ⊕ BA) :=
 gd ((decide ((0:Int)<(s.size:Int)))=true->0<=(0:Int)/\(0:Int)<s.size)<|bif((decide ((0:Int)<(s.size:Int))) && (decide ((bAt s (0:Int))=c))) then(gd (0<=(1:Int)/\(1:Int)<=(s.size:Int)/\(s.size:Int)<=s.size)<|some (.inl (s.extract 1 s.size))) else(some (.inr s))
def zcn_p0(s:BA)(c:Int):Option BA :=
 qAr (λx:BA=>zcn_p0_step x c) s
def zcn_s(s:BA)(c:Int):Option BA :=
 (zcn_p0 s c).bind λo1 =>some o1
def zcn_G:Nat->Option CQ:=tblQ []
def zcn_d0:=(dQS (qAb (dSO 0 dS) (qAb (dSO 1 (dI .u8)) dNil)) dNil)
def zcn_l0:SubQ:=mkL zcn_d0 (λx=>zcn_p0 x.1.1 x.1.2.1) λx r R kn kx kr=>kx 0 ⟨[sL 0 (.vS r)],[],[]⟩
def zcn_L:Nat->SubQ:=tblL [(0,zcn_l0)]
theorem zcn_sub0:qA3 zcn_L zcn_G 0 5 17 0 zcn_b0:=qAj (show zcn_L 0=zcn_l0 from by kernel_rfl) λx R kn kx kr=>qAh (step:=λy=>zcn_p0_step y x.1.2.1) (enc:=λ(y:BA)=>zcn_d0.e ((y,x.1.2),x.2)) (λy=>by kernel_rfl) (λy ki=>by simp only[zcn_p0_step,-eq_self,sZ];kernel_rfl) x.1.1
def zcn_c:CS:=mkC (qAb (dVC (dCO dS)) (qAb (dVC (dCO (dI .u8))) dNil)) dNil (λx y=>zcn_s x.1 x.2.1) (λx y r=>.c (.o (.vS r))) λx y r=>[]
theorem zcn_val:qAi Tryd.prog 72 zcn_c:=vl1 zcn_q [.tmp 4] 17 5 0 (show qAt zcn_L zcn_G 0 5 17 [(0,zcn_b0)] from⟨zcn_sub0,tV⟩) (λf C h=>by cases h) λx y=>by
 simp only[zcn_s,-eq_self,sZ];kernel_rfl
def zcn_w:CQ:=qDx [] zcn_c
theorem zcn_ok:qAg Tryd.prog 72 zcn_w:=qAs zcn_val
def zcl_q:IQ:=(.seq (rg 4 [oP 4 (.mv (.v (.string ⟨#[]⟩)))]) (.seq (.seq (rg 12 [oM 7 t0,oP 8 (.bi .eql t7 (.v (.string ⟨#[]⟩))),oM 9 t8,oE 10 (.mv t1) 9,oE 11 (.bi .eql t10 (.v (.string ⟨#[]⟩))) 9,oP 12 (.pick t9 vT t11)]) (.cond t12 (.seq (rg 4 [oM 13 t0,oM 4 t13]) (.cn [4] .ret)) .skip)) (.seq (.seq (rg 21 [oM 14 t1,oP 15 (.lenS t14),oP 16 (.bi .eql t15 (vI 1)),oM 17 t16,oF 18 (.mv t1) 17,oF 19 (.index t18 (vI 0)) 17,oF 20 (.bi .lss t19 (vC 128)) 17,oP 21 (.pick t17 t20 vF)]) (.cond t21 (.seq (rg 4 [oM 22 t0,oM 23 t1,oP 24 (.index t23 (vI 0)),oP 25 (.call 72 [t22,t24]),oM 4 t25]) (.cn [4] .ret)) .skip)) (.seq (.seq (rg 6 [oM 27 t1,oP 28 (.call 73 [t27]),oM 26 t28,oP 29 (.extract t26 0),oP 30 (.extract t26 1),oP 5 (.alloc 111 [.bool false,.bool false,.bool false,.bool false,.bool false,.bool false,.bool false,.bool false,.bool false,.bool false,.bool false,.bool false,.bool false,.bool false,.bool false,.bool false,.bool false,.bool false,.bool false,.bool false,.bool false,.bool false,.bool false,.bool false,.bool false,.bool false,.bool false,.bool false,.bool false,.bool false,.bool false,.bool false,.bool false,.bool false,.bool false,.bool false,.bool false,.bool false,.bool false,.bool false,.bool false,.bool false,.bool false,.bool false,.bool false,.bool false,.bool false,.bool false,.bool false,.bool false,.bool false,.bool false,.bool false,.bool false,.bool false,.bool false,.bool false,.bool false,.bool false,.bool false,.bool false,.bool false,.bool false,.bool false,.bool false,.bool false,.bool false,.bool false,.bool false,.bool false,.bool false,.bool false,.bool false,.bool false,.bool false,.bool false,.bool false,.bool false,.bool false,.bool false,.bool false,.bool false,.bool false,.bool false,.bool false,.bool false,.bool false,.bool false,.bool false,.bool false,.bool false,.bool false,.bool false,.bool false,.bool false,.bool false,.bool false,.bool false,.bool false,.bool false,.bool false,.bool false,.bool false,.bool false,.bool false,.bool false,.bool false,.bool false,.bool false,.bool false,.bool false,.bool false,.bool false,.bool false,.bool false,.bool false,.bool false,.bool false,.bool false,.bool false,.bool false,.bool false,.bool false,.bool false,.bool false,.bool false,.bool false,.bool false,.bool false,.bool false,.bool false,.bool false,.bool false,.bool false,.bool false,.bool false,.bool false,.bool false,.bool false,.bool false,.bool false,.bool false,.bool false,.bool false,.bool false,.bool false,.bool false,.bool false,.bool false,.bool false,.bool false,.bool false,.bool false,.bool false,.bool false,.bool false,.bool false,.bool false,.bool false,.bool false,.bool false,.bool false,.bool false,.bool false,.bool false,.bool false,.bool false,.bool false,.bool false,.bool false,.bool false,.bool false,.bool false,.bool false,.bool false,.bool false,.bool false,.bool false,.bool false,.bool false,.bool false,.bool false,.bool false,.bool false,.bool false,.bool false,.bool false,.bool false,.bool false,.bool false,.bool false,.bool false,.bool false,.bool false,.bool false,.bool false,.bool false,.bool false,.bool false,.bool false,.bool false,.bool false,.bool false,.bool false,.bool false,.bool false,.bool false,.bool false,.bool false,.bool false,.bool false,.bool false,.bool false,.bool false,.bool false,.bool false,.bool false,.bool false,.bool false,.bool false,.bool false,.bool false,.bool false,.bool false,.bool false,.bool false,.bool false,.bool false,.bool false,.bool false,.bool false,.bool false,.bool false,.bool false,.bool false,.bool false,.bool false,.bool false,.bool false,.bool false,.bool false,.bool false,.bool false,.bool false,.bool false,.bool false,.bool false,.bool false,.bool false,.bool false,.bool false,.bool false,.bool false,.bool false,.bool false,.bool false]),oN (.store 256 t5 t29),oM 6 t30]) (.seq (rg 31 [oM 31 t6]) (.cond t31 (.seq (rg 4 [oM 32 t0,oP 33 (.call 74 [t32,t5]),oM 4 t33]) (.cn [4] .ret)) .skip))) (.seq (rg 4 [oM 34 t0,oM 35 t1,oP 36 (.call 75 [t34,t35]),oM 4 t36]) (.cn [4] .ret))))))
def zcl_s(s cutset:BA):Option BA :=
 bif((decide (s=(⟨#[]⟩:BA))) || (decide (cutset=(⟨#[]⟩:BA)))) then(some s) else(gd ((decide ((cutset.size:Int)=(1:Int)))=true->0<=(0:Int)/\(0:Int)<cutset.size)<|bif((decide ((cutset.size:Int)=(1:Int))) && (decide ((bAt cutset (0:Int))<(128:Int)))) then(gd (0<=(0:Int)/\(0:Int)<cutset.size)<|(zcn_s s (bAt cutset (0:Int))).bind λr1 =>some r1) else(none))
def zcl_c:CS:=mkC (qAb (dVC (dCO dS)) (qAb (dVC (dCO dS)) dNil)) dNil (λx y=>zcl_s x.1 x.2.1) (λx y r=>.c (.o (.vS r))) λx y r=>[]
theorem zcl_val:qAi Tryd.prog 68 zcl_c:=vl0 zcl_q [.tmp 4] 37 7 0 [(72,zcn_w)] ⟨zcn_ok,tV⟩ λx y=>by
 simp only[zcl_s,-eq_self,sZ];kernel_rfl
def zcl_w:CQ:=qDx [] zcl_c
theorem zcl_ok:qAg Tryd.prog 68 zcl_w:=qAs zcl_val
def zco_b0:IQ:=(.loop [0,1] (.seq (.seq (rg 16 [oM 5 t0,oP 6 (.lenS t5),oP 7 (.bi .gtr t6 (vI 0)),oM 8 t7,oF 9 (.mv t0) 8,oF 10 (.mv t0) 8,oF 11 (.lenS t10) 8,oF 12 (.bi .sub t11 (vI 1)) 8,oF 13 (.index t9 t12) 8,oF 14 (.mv t1) 8,oF 15 (.bi .eql t13 t14) 8,oP 16 (.pick t8 t15 vF)]) (.cond t16 .skip (.cn [0] (.exit 0)))) (.block 1 (rg 0 [oM 17 t0,oM 18 t0,oP 19 (.lenS t18),oP 20 (.bi .sub t19 (vI 1)),oP 21 (.sub none t17 none (some t20)),oM 0 t21]))))
def zco_q:IQ:=(.seq (rg 4 [oP 4 (.mv (.v (.string ⟨#[]⟩)))]) (.seq (.block 0 (.cn [0,1] (.sub 0 zco_b0))) (.seq (rg 4 [oM 22 t0,oM 4 t22]) (.cn [4] .ret))))
def zco_p0_step(s:BA)(c:Int):Option (BA ⊕ BA) :=
 gd ((decide ((0:Int)<(s.size:Int)))=true->qAc ((s.size:Int) - (1:Int)))<|gd ((decide ((0:Int)<(s.size:Int)))=true->0<=((s.size:Int) - (1:Int))/\((s.size:Int) - (1:Int))<s.size)<|bif((decide ((0:Int)<(s.size:Int))) && (decide ((bAt s ((s.size:Int) - (1:Int)))=c))) then(gd (qAc ((s.size:Int) - (1:Int)))<|gd (0<=(0:Int)/\(0:Int)<=((s.size:Int) - (1:Int))/\((s.size:Int) - (1:Int))<=s.size)<|some (.inl (s.extract 0 (Int.toNat ((s.size:Int) - (1:Int)))))) else(some (.inr s))
def zco_p0(s:BA)(c:Int):Option BA :=
 qAr (λx:BA=>zco_p0_step x c) s
def zco_s(s:BA)(c:Int):Option BA :=
 (zco_p0 s c).bind λo1 =>some o1
def zco_G:Nat->Option CQ:=tblQ []
def zco_d0:=(dQS (qAb (dSO 0 dS) (qAb (dSO 1 (dI .u8)) dNil)) dNil)
def zco_l0:SubQ:=mkL zco_d0 (λx=>zco_p0 x.1.1 x.1.2.1) λx r R kn kx kr=>kx 0 ⟨[sL 0 (.vS r)],[],[]⟩
def zco_L:Nat->SubQ:=tblL [(0,zco_l0)]
theorem zco_sub0:qA3 zco_L zco_G 0 5 23 0 zco_b0:=qAj (show zco_L 0=zco_l0 from by kernel_rfl) λx R kn kx kr=>qAh (step:=λy=>zco_p0_step y x.1.2.1) (enc:=λ(y:BA)=>zco_d0.e ((y,x.1.2),x.2)) (λy=>by kernel_rfl) (λy ki=>by simp only[zco_p0_step,-eq_self,sZ];kernel_rfl) x.1.1
def zco_c:CS:=mkC (qAb (dVC (dCO dS)) (qAb (dVC (dCO (dI .u8))) dNil)) dNil (λx y=>zco_s x.1 x.2.1) (λx y r=>.c (.o (.vS r))) λx y r=>[]
theorem zco_val:qAi Tryd.prog 76 zco_c:=vl1 zco_q [.tmp 4] 23 5 0 (show qAt zco_L zco_G 0 5 23 [(0,zco_b0)] from⟨zco_sub0,tV⟩) (λf C h=>by cases h) λx y=>by
 simp only[zco_s,-eq_self,sZ];kernel_rfl
def zco_w:CQ:=qDx [] zco_c
theorem zco_ok:qAg Tryd.prog 76 zco_w:=qAs zco_val
def zcm_q:IQ:=(.seq (rg 4 [oP 4 (.mv (.v (.string ⟨#[]⟩)))]) (.seq (.seq (rg 12 [oM 7 t0,oP 8 (.bi .eql t7 (.v (.string ⟨#[]⟩))),oM 9 t8,oE 10 (.mv t1) 9,oE 11 (.bi .eql t10 (.v (.string ⟨#[]⟩))) 9,oP 12 (.pick t9 vT t11)]) (.cond t12 (.seq (rg 4 [oM 13 t0,oM 4 t13]) (.cn [4] .ret)) .skip)) (.seq (.seq (rg 21 [oM 14 t1,oP 15 (.lenS t14),oP 16 (.bi .eql t15 (vI 1)),oM 17 t16,oF 18 (.mv t1) 17,oF 19 (.index t18 (vI 0)) 17,oF 20 (.bi .lss t19 (vC 128)) 17,oP 21 (.pick t17 t20 vF)]) (.cond t21 (.seq (rg 4 [oM 22 t0,oM 23 t1,oP 24 (.index t23 (vI 0)),oP 25 (.call 76 [t22,t24]),oM 4 t25]) (.cn [4] .ret)) .skip)) (.seq (.seq (rg 6 [oM 27 t1,oP 28 (.call 73 [t27]),oM 26 t28,oP 29 (.extract t26 0),oP 30 (.extract t26 1),oP 5 (.alloc 111 [.bool false,.bool false,.bool false,.bool false,.bool false,.bool false,.bool false,.bool false,.bool false,.bool false,.bool false,.bool false,.bool false,.bool false,.bool false,.bool false,.bool false,.bool false,.bool false,.bool false,.bool false,.bool false,.bool false,.bool false,.bool false,.bool false,.bool false,.bool false,.bool false,.bool false,.bool false,.bool false,.bool false,.bool false,.bool false,.bool false,.bool false,.bool false,.bool false,.bool false,.bool false,.bool false,.bool false,.bool false,.bool false,.bool false,.bool false,.bool false,.bool false,.bool false,.bool false,.bool false,.bool false,.bool false,.bool false,.bool false,.bool false,.bool false,.bool false,.bool false,.bool false,.bool false,.bool false,.bool false,.bool false,.bool false,.bool false,.bool false,.bool false,.bool false,.bool false,.bool false,.bool false,.bool false,.bool false,.bool false,.bool false,.bool false,.bool false,.bool false,.bool false,.bool false,.bool false,.bool false,.bool false,.bool false,.bool false,.bool false,.bool false,.bool false,.bool false,.bool false,.bool false,.bool false,.bool false,.bool false,.bool false,.bool false,.bool false,.bool false,.bool false,.bool false,.bool false,.bool false,.bool false,.bool false,.bool false,.bool false,.bool false,.bool false,.bool false,.bool false,.bool false,.bool false,.bool false,.bool false,.bool false,.bool false,.bool false,.bool false,.bool false,.bool false,.bool false,.bool false,.bool false,.bool false,.bool false,.bool false,.bool false,.bool false,.bool false,.bool false,.bool false,.bool false,.bool false,.bool false,.bool false,.bool false,.bool false,.bool false,.bool false,.bool false,.bool false,.bool false,.bool false,.bool false,.bool false,.bool false,.bool false,.bool false,.bool false,.bool false,.bool false,.bool false,.bool false,.bool false,.bool false,.bool false,.bool false,.bool false,.bool false,.bool false,.bool false,.bool false,.bool false,.bool false,.bool false,.bool false,.bool false,.bool false,.bool false,.bool false,.bool false,.bool false,.bool false,.bool false,.bool false,.bool false,.bool false,.bool false,.bool false,.bool false,.bool false,.bool false,.bool false,.bool false,.bool false,.bool false,.bool false,.bool false,.bool false,.bool false,.bool false,.bool false,.bool false,.bool false,.bool false,.bool false,.bool false,.bool false,.bool false,.bool false,.bool false,.bool false,.bool false,.bool false,.bool false,.bool false,.bool false,.bool false,.bool false,.bool false,.bool false,.bool false,.bool false,.bool false,.bool false,.bool false,.bool false,.bool false,.bool false,.bool false,.bool false,.bool false,.bool false,.bool false,.bool false,.bool false,.bool false,.bool false,.bool false,.bool false,.bool false,.bool false,.bool false,.bool false,.bool false,.bool false,.bool false,.bool false,.bool false,.bool false,.bool false,.bool false,.bool false,.bool false,.bool false,.bool false,.bool false,.bool false,.bool false,.bool false,.bool false,.bool false,.bool false,.bool false]),oN (.store 256 t5 t29),oM 6 t30]) (.seq (rg 31 [oM 31 t6]) (.cond t31 (.seq (rg 4 [oM 32 t0,oP 33 (.call 77 [t32,t5]),oM 4 t33]) (.cn [4] .ret)) .skip))) (.seq (rg 4 [oM 34 t0,oM 35 t1,oP 36 (.call 78 [t34,t35]),oM 4 t36]) (.cn [4] .ret))))))
def zcm_s(s cutset:BA):Option BA :=
 bif((decide (s=(⟨#[]⟩:BA))) || (decide (cutset=(⟨#[]⟩:BA)))) then(some s) else(gd ((decide ((cutset.size:Int)=(1:Int)))=true->0<=(0:Int)/\(0:Int)<cutset.size)<|bif((decide ((cutset.size:Int)=(1:Int))) && (decide ((bAt cutset (0:Int))<(128:Int)))) then(gd (0<=(0:Int)/\(0:Int)<cutset.size)<|(zco_s s (bAt cutset (0:Int))).bind λr1 =>some r1) else(none))
def zcm_c:CS:=mkC (qAb (dVC (dCO dS)) (qAb (dVC (dCO dS)) dNil)) dNil (λx y=>zcm_s x.1 x.2.1) (λx y r=>.c (.o (.vS r))) λx y r=>[]
theorem zcm_val:qAi Tryd.prog 69 zcm_c:=vl0 zcm_q [.tmp 4] 37 7 0 [(76,zco_w)] ⟨zco_ok,tV⟩ λx y=>by
 simp only[zcm_s,-eq_self,sZ];kernel_rfl
def zcm_w:CQ:=qDx [] zcm_c
theorem zcm_ok:qAg Tryd.prog 69 zcm_w:=qAs zcm_val
def zab_b0:IQ:=(.join [] [0,4,6,7] (.seq (rg 8 [oM 29 t0,oP 30 (.call 67 [t29]),oM 8 t30]) (.seq (.seq (rg 41 [oM 31 t8,oP 32 (.bi .eql t31 (vI 0)),oM 33 t32,oE 34 (.mv t8) 33,oE 35 (.bi .gtr t34 (vI 1)) 33,oE 36 (.mv t35) 33,oF 37 (.mv t0) 36,oF 38 (.index t37 (vI 0)) 36,oF 39 (.bi .eql t38 (vC 48)) 36,oE 40 (.pick t36 t39 vF) 33,oP 41 (.pick t33 vT t40)]) (.cond t41 (.seq (rg 5 [oP 42 (.load (some 7) t6),oN (.store 7 t4 t42),oP 5 (.mv vF)]) (.cn [4,5] .ret)) .skip)) (.reg 0 (some [0,1,2,3,4,5,6,7,8]) [oM 43 t0,oM 44 t8,oP 45 (.sub none t43 none (some t44)),oM 46 t0,oM 47 t8,oP 48 (.sub none t46 (some t47) none),oP 49 (.faddr 1 t6),oN (.store 1 t49 t45),oM 0 t48]))))
def zab_b1:IQ:=(.join [] [0,4,6,7] (.seq (rg 10 [oM 51 t0,oP 52 (.call 66 [t51,(.v (.string ⟨#[46]⟩))]),oM 50 t52,oP 53 (.extract t50 0),oP 54 (.extract t50 1),oM 9 t53,oM 10 t54]) (.seq (rg 55 [oM 55 t10]) (.cond t55 (.seq (rg 11 [oM 56 t9,oP 57 (.call 67 [t56]),oM 11 t57]) (.seq (.seq (rg 59 [oM 58 t11,oP 59 (.bi .eql t58 (vI 0))]) (.cond t59 (.seq (rg 5 [oP 60 (.load (some 7) t6),oN (.store 7 t4 t60),oP 5 (.mv vF)]) (.cn [4,5] .ret)) .skip)) (.reg 0 (some [0,1,2,3,4,5,6,7,8,9]) [oM 61 t9,oM 62 t11,oP 63 (.sub none t61 none (some t62)),oM 64 t9,oM 65 t11,oP 66 (.sub none t64 (some t65) none),oP 67 (.faddr 4 t6),oN (.store 1 t67 vF),oM 7 t63,oM 0 t66]))) .skip))))
def zab_b3:IQ:=(.join [] [0,4,6,7] (.seq (.seq (rg 104 [oM 96 t0,oP 97 (.bi .eql t96 (.v (.string ⟨#[]⟩))),oM 98 t97,oE 99 (.mv t0) 98,oE 100 (.call 67 [t99]) 98,oE 101 (.mv t0) 98,oE 102 (.lenS t101) 98,oE 103 (.bi .neq t100 t102) 98,oP 104 (.pick t98 vT t103)]) (.cond t104 (.seq (rg 5 [oP 105 (.load (some 7) t6),oN (.store 7 t4 t105),oP 5 (.mv vF)]) (.cn [4,5] .ret)) .skip)) (rg 0 [oM 106 t0,oP 107 (.call 68 [t106,(.v (.string ⟨#[48]⟩))]),oP 108 (.faddr 4 t6),oN (.store 1 t108 vF),oP 109 (.faddr 6 t6),oN (.store 1 t109 t107),oP 0 (.mv (.v (.string ⟨#[]⟩)))])))
def zab_b2:IQ:=(.seq (.seq (rg 75 [oM 68 t0,oP 69 (.bi .neq t68 (.v (.string ⟨#[]⟩))),oM 70 t69,oF 71 (.mv t0) 70,oF 72 (.index t71 (vI 0)) 70,oF 73 (.bi .or t72 (vC 32)) 70,oF 74 (.bi .eql t73 (vC 101)) 70,oP 75 (.pick t70 t74 vF)]) (.cond t75 (.seq (rg 0 [oM 76 t0,oP 77 (.sub none t76 (some (vI 1)) none),oM 0 t77]) (.seq (.seq (rg 89 [oM 78 t0,oP 79 (.bi .neq t78 (.v (.string ⟨#[]⟩))),oM 80 t79,oF 81 (.mv t0) 80,oF 82 (.index t81 (vI 0)) 80,oF 83 (.bi .eql t82 (vC 43)) 80,oF 84 (.mv t83) 80,oE 85 (.mv t0) 84,oE 86 (.index t85 (vI 0)) 84,oE 87 (.bi .eql t86 (vC 45)) 84,oF 88 (.pick t84 vT t87) 80,oP 89 (.pick t80 t88 vF)]) (.cond t89 (.reg 0 (some [0,1,2,3,4,5,6,7]) [oM 90 t0,oP 91 (.index t90 (vI 0)),oP 92 (.bi .eql t91 (vC 45)),oM 93 t0,oP 94 (.sub none t93 (some (vI 1)) none),oP 95 (.faddr 5 t6),oN (.store 1 t95 t92),oM 0 t94]) .skip)) (.cn [0,4,6,7] (.sub 3 zab_b3)))) .skip)) (.cn [0,4,6,7] (.exit 0)))
def zab_b4:IQ:=(.seq (rg 12 [oP 110 (.faddr 1 t6),oP 111 (.load none t110),oM 112 t7,oP 113 (.bi .add t111 t112),oM 12 t113]) (.seq (rg 0 [oM 114 t12,oP 115 (.call 68 [t114,(.v (.string ⟨#[48]⟩))]),oP 116 (.faddr 2 t6),oN (.store 1 t116 t115)]) (.seq (rg 0 [oP 117 (.faddr 1 t6),oP 118 (.load none t117),oP 119 (.lenS t118),oM 120 t12,oP 121 (.lenS t120),oP 122 (.faddr 2 t6),oP 123 (.load none t122),oP 124 (.lenS t123),oP 125 (.bi .sub t121 t124),oP 126 (.bi .sub t119 t125),oP 127 (.faddr 3 t6),oN (.store 1 t127 t126)]) (.seq (rg 0 [oP 128 (.faddr 2 t6),oP 129 (.load none t128),oP 130 (.call 69 [t129,(.v (.string ⟨#[48]⟩))]),oP 131 (.faddr 2 t6),oN (.store 1 t131 t130)]) (.seq (.seq (rg 134 [oP 132 (.faddr 6 t6),oP 133 (.load none t132),oP 134 (.bi .eql t133 (.v (.string ⟨#[]⟩)))]) (.cond t134 (rg 0 [oP 135 (.faddr 5 t6),oN (.store 1 t135 vF)]) .skip)) (.seq (rg 5 [oP 136 (.load (some 7) t6),oM 137 t0,oP 138 (.bi .eql t137 (.v (.string ⟨#[]⟩))),oN (.store 7 t4 t136),oM 5 t138]) (.cn [4,5] .ret)))))))
def zab_q:IQ:=(.seq (rg 5 [oP 4 (.alloc 94 [.bool false,.string ⟨#[]⟩,.string ⟨#[]⟩,.int .i64 0,.bool false,.bool false,.string ⟨#[]⟩]),oP 5 (.mv vF)]) (.seq (rg 0 [oP 13 (.build [.bool false,.string ⟨#[]⟩,.string ⟨#[]⟩,.int .i64 0,.bool false,.bool false,.string ⟨#[]⟩] [(4,1,vT)]),oP 6 (.alloc 94 [.bool false,.string ⟨#[]⟩,.string ⟨#[]⟩,.int .i64 0,.bool false,.bool false,.string ⟨#[]⟩]),oN (.store 7 t6 t13)]) (.seq (rg 7 [oP 7 (.mv (.v (.string ⟨#[]⟩)))]) (.seq (.seq (rg 14 [oM 14 t1]) (.block 0 (.seq (.block 4 (.seq (.block 3 (.seq (.block 2 (.seq (.block 1 (.seq (.seq (.seq (rg 15 [oP 16 (.bi .eql t14 (vI 0)),oM 15 t16]) (.cond t15 (.exit 1) .skip)) (.seq (.seq (rg 17 [oP 18 (.bi .eql t14 (vI 1)),oM 17 t18]) (.cond t17 (.exit 2) .skip)) (.seq (.seq (rg 19 [oP 20 (.bi .eql t14 (vI 2)),oM 19 t20]) (.cond t19 (.exit 3) .skip)) (.seq (rg 21 [oP 22 (.bi .eql t14 (vI 3)),oM 21 t22]) (.cond t21 (.exit 4) .skip))))) (.exit 0))) (rg 0 [oM 24 t0,oP 25 (.call 66 [t24,(.v (.string ⟨#[45]⟩))]),oM 23 t25,oP 26 (.extract t23 0),oP 27 (.extract t23 1),oM 0 t26,oP 28 (.faddr 0 t6),oN (.store 1 t28 t27)]))) (.cn [0,4,6,7] (.sub 0 zab_b0)))) (.cn [0,4,6,7] (.sub 1 zab_b1)))) (.cn [0,4,6,7] (.sub 2 zab_b2))))) (.cn [0,4,6,7] (.sub 4 zab_b4))))))
def zab_p0(s:BA):Option (Bool ⊕ (BA × BA)) :=
 (zac_s s).bind λr2 =>gd ((decide ((1:Int)<r2))=true->(decide (r2=(0:Int)))=false->0<=(0:Int)/\(0:Int)<s.size)<|bif((decide (r2=(0:Int))) || ((decide ((1:Int)<r2)) && (decide ((bAt s (0:Int))=(48:Int))))) then(some (.inl false)) else(gd (0<=(0:Int)/\(0:Int)<=r2/\r2<=s.size)<|gd (0<=r2/\r2<=(s.size:Int)/\(s.size:Int)<=s.size)<|some (.inr ((s.extract r2.toNat s.size),(s.extract 0 r2.toNat))))
def zab_p1(s behind:BA)(n_plain:Bool):Option (Bool ⊕ (BA × BA × Bool)) :=
 (zck_s s (⟨#[46]⟩:BA)).bind λr4 =>bif r4.2 then((zac_s r4.1).bind λr5 =>bif decide (r5=(0:Int)) then(some (.inl false)) else(gd (0<=(0:Int)/\(0:Int)<=r5/\r5<=r4.1.size)<|gd (0<=r5/\r5<=(r4.1.size:Int)/\(r4.1.size:Int)<=r4.1.size)<|some (.inr ((r4.1.extract r5.toNat r4.1.size),(r4.1.extract 0 r5.toNat),false)))) else(some (.inr (s,behind,n_plain)))
def zab_p3(s:BA):Option (Bool ⊕ (BA × Bool × BA)) :=
 bif decide (s=(⟨#[]⟩:BA)) then(some (.inl false)) else((zac_s s).bind λr7 =>bif(!decide (r7=(s.size:Int))) then(some (.inl false)) else((zcl_s s (⟨#[48]⟩:BA)).bind λr8 =>some (.inr ((⟨#[]⟩:BA),false,r8))))
def zab_p2(s:BA)(n_plain n_down:Bool)(n_exp:BA):Option ((Bool × Bool) ⊕ (BA × Bool × Bool × BA)) :=
 gd ((!decide (s=(⟨#[]⟩:BA)))=true->0<=(0:Int)/\(0:Int)<s.size)<|bif((!decide (s=(⟨#[]⟩:BA))) && (decide ((qBr .u8 (bAt s (0:Int)) (32:Int))=(101:Int)))) then(gd (0<=(1:Int)/\(1:Int)<=(s.size:Int)/\(s.size:Int)<=s.size)<|gd ((!decide ((s.extract 1 s.size)=(⟨#[]⟩:BA)))=true->0<=(0:Int)/\(0:Int)<(s.extract 1 s.size).size)<|gd ((decide ((bAt (s.extract 1 s.size) (0:Int))=(43:Int)))=false->(!decide ((s.extract 1 s.size)=(⟨#[]⟩:BA)))=true->0<=(0:Int)/\(0:Int)<(s.extract 1 s.size).size)<|bif((!decide ((s.extract 1 s.size)=(⟨#[]⟩:BA))) && ((decide ((bAt (s.extract 1 s.size) (0:Int))=(43:Int))) || (decide ((bAt (s.extract 1 s.size) (0:Int))=(45:Int))))) then(gd (0<=(0:Int)/\(0:Int)<(s.extract 1 s.size).size)<|gd (0<=(1:Int)/\(1:Int)<=((s.extract 1 s.size).size:Int)/\((s.extract 1 s.size).size:Int)<=(s.extract 1 s.size).size)<|(zab_p3 ((s.extract 1 s.size).extract 1 (s.extract 1 s.size).size)).bind λo9=>(Sum.elim (λ(o9_0:Bool) =>some (.inl (o9_0,decide ((bAt (s.extract 1 s.size) (0:Int))=(45:Int))))) (λ(o9_1:BA × Bool × BA) =>some (.inr (o9_1.1,o9_1.2.1,decide ((bAt (s.extract 1 s.size) (0:Int))=(45:Int)),o9_1.2.2)))) o9) else((zab_p3 (s.extract 1 s.size)).bind λo10=>(Sum.elim (λ(o10_0:Bool) =>some (.inl (o10_0,n_down))) (λ(o10_1:BA × Bool × BA) =>some (.inr (o10_1.1,o10_1.2.1,n_down,o10_1.2.2)))) o10)) else(some (.inr (s,n_plain,n_down,n_exp)))
def zab_p4(s behind n_whole:BA)(n_down:Bool)(n_exp:BA):Option (Bool × BA × Int × Bool) :=
 gd (n_whole.size+behind.size<=9223372036854775807)<|(zcl_s (n_whole++behind) (⟨#[48]⟩:BA)).bind λr12 =>gd (qAc (((n_whole++behind).size:Int) - (r12.size:Int)))<|gd (qAc ((n_whole.size:Int) - (((n_whole++behind).size:Int) - (r12.size:Int))))<|(zcm_s r12 (⟨#[48]⟩:BA)).bind λr13 =>bif decide (n_exp=(⟨#[]⟩:BA)) then(some (decide (s=(⟨#[]⟩:BA)),r13,((n_whole.size:Int) - (((n_whole++behind).size:Int) - (r12.size:Int))),false)) else(some (decide (s=(⟨#[]⟩:BA)),r13,((n_whole.size:Int) - (((n_whole++behind).size:Int) - (r12.size:Int))),n_down))
def zab_s(s:BA)(part:Int):Option (decimal_number × Bool) :=
 bif decide (part=(0:Int)) then((zck_s s (⟨#[45]⟩:BA)).bind λr1 =>(zab_p0 r1.1).bind λo3=>(Sum.elim (λ(o3_0:Bool) =>some ((⟨r1.2,(⟨#[]⟩:BA),(⟨#[]⟩:BA),(0:Int),true,false,(⟨#[]⟩:BA)⟩:decimal_number),o3_0)) (λ(o3_1:BA × BA) =>(zab_p1 o3_1.1 (⟨#[]⟩:BA) true).bind λo6=>(Sum.elim (λ(o6_0:Bool) =>some ((⟨r1.2,o3_1.2,(⟨#[]⟩:BA),(0:Int),true,false,(⟨#[]⟩:BA)⟩:decimal_number),o6_0)) (λ(o6_1:BA × BA × Bool) =>(zab_p2 o6_1.1 o6_1.2.2 false (⟨#[]⟩:BA)).bind λo11=>(Sum.elim (λ(o11_0:Bool × Bool) =>some ((⟨r1.2,o3_1.2,(⟨#[]⟩:BA),(0:Int),o6_1.2.2,o11_0.2,(⟨#[]⟩:BA)⟩:decimal_number),o11_0.1)) (λ(o11_1:BA × Bool × Bool × BA) =>(zab_p4 o11_1.1 o6_1.2.1 o3_1.2 o11_1.2.2.1 o11_1.2.2.2).bind λo14 =>some ((⟨r1.2,o3_1.2,o14.2.1,o14.2.2.1,o11_1.2.1,o14.2.2.2,o11_1.2.2.2⟩:decimal_number),o14.1))) o11)) o6)) o3) else(bif decide (part=(1:Int)) then((zab_p0 s).bind λo15=>(Sum.elim (λ(o15_0:Bool) =>some ((⟨false,(⟨#[]⟩:BA),(⟨#[]⟩:BA),(0:Int),true,false,(⟨#[]⟩:BA)⟩:decimal_number),o15_0)) (λ(o15_1:BA × BA) =>(zab_p1 o15_1.1 (⟨#[]⟩:BA) true).bind λo16=>(Sum.elim (λ(o16_0:Bool) =>some ((⟨false,o15_1.2,(⟨#[]⟩:BA),(0:Int),true,false,(⟨#[]⟩:BA)⟩:decimal_number),o16_0)) (λ(o16_1:BA × BA × Bool) =>(zab_p2 o16_1.1 o16_1.2.2 false (⟨#[]⟩:BA)).bind λo17=>(Sum.elim (λ(o17_0:Bool × Bool) =>some ((⟨false,o15_1.2,(⟨#[]⟩:BA),(0:Int),o16_1.2.2,o17_0.2,(⟨#[]⟩:BA)⟩:decimal_number),o17_0.1)) (λ(o17_1:BA × Bool × Bool × BA) =>(zab_p4 o17_1.1 o16_1.2.1 o15_1.2 o17_1.2.2.1 o17_1.2.2.2).bind λo18 =>some ((⟨false,o15_1.2,o18.2.1,o18.2.2.1,o17_1.2.1,o18.2.2.2,o17_1.2.2.2⟩:decimal_number),o18.1))) o17)) o16)) o15) else(bif decide (part=(2:Int)) then((zab_p1 s (⟨#[]⟩:BA) true).bind λo19=>(Sum.elim (λ(o19_0:Bool) =>some ((⟨false,(⟨#[]⟩:BA),(⟨#[]⟩:BA),(0:Int),true,false,(⟨#[]⟩:BA)⟩:decimal_number),o19_0)) (λ(o19_1:BA × BA × Bool) =>(zab_p2 o19_1.1 o19_1.2.2 false (⟨#[]⟩:BA)).bind λo20=>(Sum.elim (λ(o20_0:Bool × Bool) =>some ((⟨false,(⟨#[]⟩:BA),(⟨#[]⟩:BA),(0:Int),o19_1.2.2,o20_0.2,(⟨#[]⟩:BA)⟩:decimal_number),o20_0.1)) (λ(o20_1:BA × Bool × Bool × BA) =>(zab_p4 o20_1.1 o19_1.2.1 (⟨#[]⟩:BA) o20_1.2.2.1 o20_1.2.2.2).bind λo21 =>some ((⟨false,(⟨#[]⟩:BA),o21.2.1,o21.2.2.1,o20_1.2.1,o21.2.2.2,o20_1.2.2.2⟩:decimal_number),o21.1))) o20)) o19) else(bif decide (part=(3:Int)) then((zab_p2 s true false (⟨#[]⟩:BA)).bind λo22=>(Sum.elim (λ(o22_0:Bool × Bool) =>some ((⟨false,(⟨#[]⟩:BA),(⟨#[]⟩:BA),(0:Int),true,o22_0.2,(⟨#[]⟩:BA)⟩:decimal_number),o22_0.1)) (λ(o22_1:BA × Bool × Bool × BA) =>(zab_p4 o22_1.1 (⟨#[]⟩:BA) (⟨#[]⟩:BA) o22_1.2.2.1 o22_1.2.2.2).bind λo23 =>some ((⟨false,(⟨#[]⟩:BA),o23.2.1,o23.2.2.1,o22_1.2.1,o23.2.2.2,o22_1.2.2.2⟩:decimal_number),o23.1))) o22) else((zab_p4 s (⟨#[]⟩:BA) (⟨#[]⟩:BA) false (⟨#[]⟩:BA)).bind λo24 =>some ((⟨false,(⟨#[]⟩:BA),o24.2.1,o24.2.2.1,true,o24.2.2.2,(⟨#[]⟩:BA)⟩:decimal_number),o24.1)))))
def zab_G:Nat->Option CQ:=tblQ [(66,zck_w),(67,zac_w),(68,zcl_w),(69,zcm_w)]
def zDGC1:=(qDy 94 (qAb dB (qAb dS (qAb dS (qAb dZ (qAb dB (qAb dB (qAb dS dNil))))))))
def zDGC3:=(qAb (dSO 0 dS) (qAb (dSO 4 (dH 0 0)) (qAb (dSO 6 (dH 1 0)) (qAb (dSO 7 dS) dNil))))
def zDGC5:=(qAb zDGC1 (qAb zDGC1 dNil))
def zab_d0:=(dQS zDGC3 zDGC5)
def zab_l0:SubQ:=mkL zab_d0 (λx=>zab_p0 x.1.1) λx r R kn kx kr=>(Sum.elim (λ(r_0:Bool)=>kr ⟨[sL 4 (.hd 0 0),sL 5 (.vB r_0)],[],[.cells 94 [.vB x.2.2.1.1,.vS x.2.2.1.2.1,.vS x.2.2.1.2.2.1,.vI x.2.2.1.2.2.2.1,.vB x.2.2.1.2.2.2.2.1,.vB x.2.2.1.2.2.2.2.2.1,.vS x.2.2.1.2.2.2.2.2.2.1]]⟩) (λ(r_1:BA × BA)=>kn ⟨[sL 0 (.vS r_1.1),sL 4 (.hd 0 0),sL 6 (.hd 1 0),sL 7 (.vS x.1.2.2.2.1)],[],[.cells 94 [.vB x.2.1.1,.vS x.2.1.2.1,.vS x.2.1.2.2.1,.vI x.2.1.2.2.2.1,.vB x.2.1.2.2.2.2.1,.vB x.2.1.2.2.2.2.2.1,.vS x.2.1.2.2.2.2.2.2.1],.cells 94 [.vB x.2.2.1.1,.vS r_1.2,.vS x.2.2.1.2.2.1,.vI x.2.2.1.2.2.2.1,.vB x.2.2.1.2.2.2.2.1,.vB x.2.2.1.2.2.2.2.2.1,.vS x.2.2.1.2.2.2.2.2.2.1]]⟩)) r
def zab_d1:=(dQS zDGC3 zDGC5)
def zab_l1:SubQ:=mkL zab_d1 (λx=>zab_p1 x.1.1 x.1.2.2.2.1 x.2.2.1.2.2.2.2.1) λx r R kn kx kr=>(Sum.elim (λ(r_0:Bool)=>kr ⟨[sL 4 (.hd 0 0),sL 5 (.vB r_0)],[],[.cells 94 [.vB x.2.2.1.1,.vS x.2.2.1.2.1,.vS x.2.2.1.2.2.1,.vI x.2.2.1.2.2.2.1,.vB x.2.2.1.2.2.2.2.1,.vB x.2.2.1.2.2.2.2.2.1,.vS x.2.2.1.2.2.2.2.2.2.1]]⟩) (λ(r_1:BA × BA × Bool)=>kn ⟨[sL 0 (.vS r_1.1),sL 4 (.hd 0 0),sL 6 (.hd 1 0),sL 7 (.vS r_1.2.1)],[],[.cells 94 [.vB x.2.1.1,.vS x.2.1.2.1,.vS x.2.1.2.2.1,.vI x.2.1.2.2.2.1,.vB x.2.1.2.2.2.2.1,.vB x.2.1.2.2.2.2.2.1,.vS x.2.1.2.2.2.2.2.2.1],.cells 94 [.vB x.2.2.1.1,.vS x.2.2.1.2.1,.vS x.2.2.1.2.2.1,.vI x.2.2.1.2.2.2.1,.vB r_1.2.2,.vB x.2.2.1.2.2.2.2.2.1,.vS x.2.2.1.2.2.2.2.2.2.1]]⟩)) r
def zab_d3:=(dQS zDGC3 zDGC5)
def zab_l3:SubQ:=mkL zab_d3 (λx=>zab_p3 x.1.1) λx r R kn kx kr=>(Sum.elim (λ(r_0:Bool)=>kr ⟨[sL 4 (.hd 0 0),sL 5 (.vB r_0)],[],[.cells 94 [.vB x.2.2.1.1,.vS x.2.2.1.2.1,.vS x.2.2.1.2.2.1,.vI x.2.2.1.2.2.2.1,.vB x.2.2.1.2.2.2.2.1,.vB x.2.2.1.2.2.2.2.2.1,.vS x.2.2.1.2.2.2.2.2.2.1]]⟩) (λ(r_1:BA × Bool × BA)=>kn ⟨[sL 0 (.vS r_1.1),sL 4 (.hd 0 0),sL 6 (.hd 1 0),sL 7 (.vS x.1.2.2.2.1)],[],[.cells 94 [.vB x.2.1.1,.vS x.2.1.2.1,.vS x.2.1.2.2.1,.vI x.2.1.2.2.2.1,.vB x.2.1.2.2.2.2.1,.vB x.2.1.2.2.2.2.2.1,.vS x.2.1.2.2.2.2.2.2.1],.cells 94 [.vB x.2.2.1.1,.vS x.2.2.1.2.1,.vS x.2.2.1.2.2.1,.vI x.2.2.1.2.2.2.1,.vB r_1.2.1,.vB x.2.2.1.2.2.2.2.2.1,.vS r_1.2.2]]⟩)) r
def zab_d2:=(dQS zDGC3 zDGC5)
def zab_l2:SubQ:=mkL zab_d2 (λx=>zab_p2 x.1.1 x.2.2.1.2.2.2.2.1 x.2.2.1.2.2.2.2.2.1 x.2.2.1.2.2.2.2.2.2.1) λx r R kn kx kr=>(Sum.elim (λ(r_0:Bool × Bool)=>kr ⟨[sL 4 (.hd 0 0),sL 5 (.vB r_0.1)],[],[.cells 94 [.vB x.2.2.1.1,.vS x.2.2.1.2.1,.vS x.2.2.1.2.2.1,.vI x.2.2.1.2.2.2.1,.vB x.2.2.1.2.2.2.2.1,.vB r_0.2,.vS x.2.2.1.2.2.2.2.2.2.1]]⟩) (λ(r_1:BA × Bool × Bool × BA)=>kx 0 ⟨[sL 0 (.vS r_1.1),sL 4 (.hd 0 0),sL 6 (.hd 1 0),sL 7 (.vS x.1.2.2.2.1)],[],[.cells 94 [.vB x.2.1.1,.vS x.2.1.2.1,.vS x.2.1.2.2.1,.vI x.2.1.2.2.2.1,.vB x.2.1.2.2.2.2.1,.vB x.2.1.2.2.2.2.2.1,.vS x.2.1.2.2.2.2.2.2.1],.cells 94 [.vB x.2.2.1.1,.vS x.2.2.1.2.1,.vS x.2.2.1.2.2.1,.vI x.2.2.1.2.2.2.1,.vB r_1.2.1,.vB r_1.2.2.1,.vS r_1.2.2.2]]⟩)) r
def zab_d4:=(dQS zDGC3 zDGC5)
def zab_l4:SubQ:=mkL zab_d4 (λx=>zab_p4 x.1.1 x.1.2.2.2.1 x.2.2.1.2.1 x.2.2.1.2.2.2.2.2.1 x.2.2.1.2.2.2.2.2.2.1) λx r R kn kx kr=>kr ⟨[sL 4 (.hd 0 0),sL 5 (.vB r.1)],[],[.cells 94 [.vB x.2.2.1.1,.vS x.2.2.1.2.1,.vS r.2.1,.vI r.2.2.1,.vB x.2.2.1.2.2.2.2.1,.vB r.2.2.2,.vS x.2.2.1.2.2.2.2.2.2.1]]⟩
def zab_L:Nat->SubQ:=tblL [(0,zab_l0),(1,zab_l1),(3,zab_l3),(2,zab_l2),(4,zab_l4)]
theorem zab_sub0:qA3 zab_L zab_G 0 15 139 0 zab_b0:=qAj (show zab_L 0=zab_l0 from by kernel_rfl) λx R kn kx kr=>by
 simp only[zab_p0,-eq_self,sZ];kernel_rfl
theorem zab_sub1:qA3 zab_L zab_G 0 15 139 1 zab_b1:=qAj (show zab_L 1=zab_l1 from by kernel_rfl) λx R kn kx kr=>by
 simp only[zab_p1,-eq_self,sZ];kernel_rfl
theorem zab_sub3:qA3 zab_L zab_G 0 15 139 3 zab_b3:=qAj (show zab_L 3=zab_l3 from by kernel_rfl) λx R kn kx kr=>by
 simp only[zab_p3,-eq_self,sZ];kernel_rfl
theorem zab_sub2:qA3 zab_L zab_G 0 15 139 2 zab_b2:=qAj (show zab_L 2=zab_l2 from by kernel_rfl) λx R kn kx kr=>by
 simp only[zab_p2,-eq_self,sZ];kernel_rfl
theorem zab_sub4:qA3 zab_L zab_G 0 15 139 4 zab_b4:=qAj (show zab_L 4=zab_l4 from by kernel_rfl) λx R kn kx kr=>by
 simp only[zab_p4,-eq_self,sZ];kernel_rfl
def zab_c:CS:=mkC (qAb (dVC (dCO dS)) (qAb (dVC (dCO dZ)) dNil)) dNil (λx y=>zab_s x.1 x.2.1) (λx y r=>.tup [.agg [.vB r.1.minus,.vS r.1.whole,.vS r.1.digits,.vI r.1.point,.vB r.1.plain,.vB r.1.down,.vS r.1.exp_],.o (.vB r.2)]) λx y r=>[]
theorem zab_val:qAi Tryd.prog 62 zab_c:=vl1 zab_q [.cell 4 (some 7),.tmp 5] 139 15 0 (show qAt zab_L zab_G 0 15 139 [(0,zab_b0),(1,zab_b1),(2,zab_b2),(3,zab_b3),(4,zab_b4)] from⟨zab_sub0,zab_sub1,zab_sub2,zab_sub3,zab_sub4,tV⟩) (qAk ⟨zck_ok,zac_ok,zcl_ok,zcm_ok,tV⟩) λx y=>by
 simp only[zab_s,-eq_self,sZ];kernel_rfl
def zab_w:CQ:=qDx [] zab_c
theorem zab_ok:qAg Tryd.prog 62 zab_w:=qAs zab_val
def zaa_b0:IQ:=(.loop [4,6,23,24] (.seq (rg 25 [oP 25 (.bi .lss t24 t23)]) (.seq (.cond t25 .skip (.cn [4,6] (.exit 0))) (.seq (.block 1 (.seq (rg 7 [oM 26 t24,oM 7 t26]) (.seq (rg 8 [oP 27 (.faddr 1 t4),oP 28 (.load none t27),oM 29 t7,oP 30 (.index t28 t29),oP 31 (.bi .sub t30 (vC 48)),oP 32 (.conv false .u64 t31),oM 8 t32]) (.seq (.seq (rg 37 [oM 33 t6,oM 34 t8,oP 35 (.bi .sub (.v (.int .u64 9223372036854775808)) t34),oP 36 (.bi .quo t35 (.v (.int .u64 10))),oP 37 (.bi .gtr t33 t36)]) (.cond t37 (.seq (rg 3 [oP 2 (.mv (vI 0)),oP 3 (.mv vF)]) (.cn [2,3] .ret)) .skip)) (rg 6 [oM 38 t6,oP 39 (.bi .mul (.v (.int .u64 10)) t38),oM 40 t8,oP 41 (.bi .add t39 t40),oM 6 t41]))))) (rg 24 [oP 42 (.bi .add t24 (vI 1)),oM 24 t42])))))
def zaa_q:IQ:=(.seq (rg 3 [oP 2 (.mv (vI 0)),oP 3 (.mv vF)]) (.seq (rg 5 [oM 10 t0,oP 11 (.call 62 [t10,(vI 0)]),oM 9 t11,oP 12 (.extract t9 0),oP 13 (.extract t9 1),oP 4 (.alloc 94 [.bool false,.string ⟨#[]⟩,.string ⟨#[]⟩,.int .i64 0,.bool false,.bool false,.string ⟨#[]⟩]),oN (.store 7 t4 t12),oM 5 t13]) (.seq (.seq (rg 20 [oM 14 t5,oP 15 (.un .not t14),oM 16 t15,oE 17 (.faddr 4 t4) 16,oE 18 (.load none t17) 16,oE 19 (.un .not t18) 16,oP 20 (.pick t16 vT t19)]) (.cond t20 (.seq (rg 3 [oP 2 (.mv (vI 0)),oP 3 (.mv vF)]) (.cn [2,3] .ret)) .skip)) (.seq (rg 6 [oP 6 (.mv (.v (.int .u64 0)))]) (.seq (.seq (rg 24 [oP 21 (.faddr 1 t4),oP 22 (.load none t21),oP 23 (.lenS t22),oP 24 (.mv (vI 0))]) (.block 0 (.cn [4,6,23,24] (.sub 0 zaa_b0)))) (.seq (.seq (rg 49 [oP 43 (.faddr 0 t4),oP 44 (.load none t43),oP 45 (.un .not t44),oM 46 t45,oF 47 (.mv t6) 46,oF 48 (.bi .eql t47 (.v (.int .u64 9223372036854775808))) 46,oP 49 (.pick t46 t48 vF)]) (.cond t49 (.seq (rg 3 [oP 2 (.mv (vI 0)),oP 3 (.mv vF)]) (.cn [2,3] .ret)) .skip)) (.seq (.seq (rg 51 [oP 50 (.faddr 0 t4),oP 51 (.load none t50)]) (.cond t51 (rg 6 [oM 52 t6,oP 53 (.un .neg t52),oM 6 t53]) .skip)) (.seq (rg 3 [oM 54 t6,oP 55 (.conv true .i64 t54),oM 2 t55,oP 3 (.mv vT)]) (.cn [2,3] .ret)))))))))
def qCa(v x23_ x24_:Int)(n_whole:BA):Option ((Int × Int) ⊕ ((Int × Bool) ⊕ Int)) :=
 bif decide (x24_<x23_) then(gd (0<=x24_/\x24_<n_whole.size)<|gd (0<=(((9223372036854775808:Int) - ((((bAt n_whole x24_) - (48:Int)) % 256) % 18446744073709551616)) % 18446744073709551616)/\(((9223372036854775808:Int) - ((((bAt n_whole x24_) - (48:Int)) % 256) % 18446744073709551616)) % 18446744073709551616)<=18446744073709551615/\1<=(10:Int))<|bif decide (((((9223372036854775808:Int) - ((((bAt n_whole x24_) - (48:Int)) % 256) % 18446744073709551616)) % 18446744073709551616) / (10:Int))<v) then(some (.inr (.inl ((0:Int),false)))) else(gd (qAc (x24_+(1:Int)))<|some (.inl ((((((10:Int)*v) % 18446744073709551616)+((((bAt n_whole x24_) - (48:Int)) % 256) % 18446744073709551616)) % 18446744073709551616),(x24_+(1:Int)))))) else(some (.inr (.inr v)))
def qE5(v x23_ x24_:Int)(n_whole:BA):Option ((Int × Bool) ⊕ Int) :=
 qAr (λx:(Int × Int)=>qCa x.1 x23_ x.2 n_whole) (v,x24_)
def zaa_s(text:BA):Option (Int × Bool) :=
 (zab_s text (0:Int)).bind λr3 =>bif((!r3.2) || (!r3.1.plain)) then(some ((0:Int),false)) else((qE5 (0:Int) (r3.1.whole.size:Int) (0:Int) r3.1.whole).bind λo4=>(Sum.elim (λ(o4_0:Int × Bool) =>some (o4_0.1,o4_0.2)) (λ(o4_1:Int) =>bif((!r3.1.minus) && (decide (o4_1=(9223372036854775808:Int)))) then(some ((0:Int),false)) else(bif r3.1.minus then(some (w64 ((0 - o4_1) % 18446744073709551616),true)) else(some (w64 o4_1,true))))) o4)
def zaa_G:Nat->Option CQ:=tblQ [(62,zab_w)]
def zaa_d0:=(dQS (qAb (dSO 4 (dH 0 0)) (qAb (dSO 6 (dI .u64)) (qAb (dSO 23 dZ) (qAb (dSO 24 dZ) dNil)))) (qAb zDGC1 dNil))
def zaa_l0:SubQ:=mkL zaa_d0 (λx=>qE5 x.1.2.1 x.1.2.2.1 x.1.2.2.2.1 x.2.1.2.1) λx r R kn kx kr=>(Sum.elim (λ(r_0:Int × Bool)=>kr ⟨[sL 2 (.vI r_0.1),sL 3 (.vB r_0.2)],[],[]⟩) (λ(r_1:Int)=>kx 0 ⟨[sL 4 (.hd 0 0),(6,[],.c (.o (.val (.int .u64 r_1))))],[],[.cells 94 [.vB x.2.1.1,.vS x.2.1.2.1,.vS x.2.1.2.2.1,.vI x.2.1.2.2.2.1,.vB x.2.1.2.2.2.2.1,.vB x.2.1.2.2.2.2.2.1,.vS x.2.1.2.2.2.2.2.2.1]]⟩)) r
def zaa_L:Nat->SubQ:=tblL [(0,zaa_l0)]
theorem zaa_sub0:qA3 zaa_L zaa_G 0 25 56 0 zaa_b0:=qAj (show zaa_L 0=zaa_l0 from by kernel_rfl) λx R kn kx kr=>qAh (step:=λy=>qCa y.1 x.1.2.2.1 y.2 x.2.1.2.1) (enc:=λ(y:Int × Int)=>zaa_d0.e ((x.1.1,y.1,x.1.2.2.1,y.2,x.1.2.2.2.2),x.2)) (λy=>by kernel_rfl) (λy ki=>by simp only[qCa,-eq_self,sZ];kernel_rfl) (x.1.2.1,x.1.2.2.2.1)
def zaa_c:CS:=mkC (qAb (dVC (dCO dS)) dNil) dNil (λx y=>zaa_s x.1) (λx y r=>.tup [.o (.vI r.1),.o (.vB r.2)]) λx y r=>[]
theorem zaa_val:qAi Tryd.prog 55 zaa_c:=vl1 zaa_q [.tmp 2,.tmp 3] 56 25 0 (raws:=[55]) (show qAt zaa_L zaa_G 0 25 56 [(0,zaa_b0)] from⟨zaa_sub0,tV⟩) (qAk ⟨zab_ok,tV⟩) λx y=>by
 simp only[zaa_s,-eq_self,sZ];kernel_rfl
def zaa_w:CQ:=qDx [] zaa_c
theorem zaa_ok:qAg Tryd.prog 55 zaa_w:=qAs zaa_val
def zbm_q:IQ:=(.seq (rg 4 [oP 4 (.mv vF)]) (.seq (rg 4 [oM 5 t1,oM 6 t0,oP 7 (.lenS t6),oP 8 (.bi .lss t5 t7),oM 9 t8,oF 10 (.mv t0) 9,oF 11 (.mv t1) 9,oF 12 (.index t10 t11) 9,oF 13 (.bi .geq t12 (vC 48)) 9,oP 14 (.pick t9 t13 vF),oM 15 t14,oF 16 (.mv t0) 15,oF 17 (.mv t1) 15,oF 18 (.index t16 t17) 15,oF 19 (.bi .leq t18 (vC 57)) 15,oP 20 (.pick t15 t19 vF),oM 4 t20]) (.cn [4] .ret)))
def zbm_s(s:BA)(at_:Int):Option Bool :=
 gd ((decide (at_<(s.size:Int)))=true->0<=at_/\at_<s.size)<|gd (((decide (at_<(s.size:Int))) && (decide ((48:Int)<=(bAt s at_))))=true->0<=at_/\at_<s.size)<|some (((decide (at_<(s.size:Int))) && (decide ((48:Int)<=(bAt s at_)))) && (decide ((bAt s at_)<=(57:Int))))
def zbm_c:CS:=mkC (qAb (dVC (dCO dS)) (qAb (dVC (dCO dZ)) dNil)) dNil (λx y=>zbm_s x.1 x.2.1) (λx y r=>.c (.o (.vB r))) λx y r=>[]
theorem zbm_val:qAi Tryd.prog 63 zbm_c:=vl0 zbm_q [.tmp 4] 21 5 0 [] trivial λx y=>by
 simp only[zbm_s,-eq_self,sZ];kernel_rfl
def zbm_w:CQ:=qDx [] zbm_c
theorem zbm_ok:qAg Tryd.prog 63 zbm_w:=qAs zbm_val
def zbn_b0:IQ:=(.loop [0,1] (.seq (.seq (rg 7 [oM 5 t0,oM 6 t1,oP 7 (.call 63 [t5,t6])]) (.cond t7 .skip (.cn [1] (.exit 0)))) (.block 1 (rg 1 [oM 8 t1,oP 9 (.bi .add t8 (vI 1)),oM 1 t9]))))
def zbn_q:IQ:=(.seq (rg 4 [oP 4 (.mv (vI 0))]) (.seq (.block 0 (.cn [0,1] (.sub 0 zbn_b0))) (.seq (rg 4 [oM 10 t1,oM 4 t10]) (.cn [4] .ret))))
def zbn_p0_step(s:BA)(at_:Int):Option (Int ⊕ Int) :=
 (zbm_s s at_).bind λr2 =>bif r2 then(gd (qAc (at_+(1:Int)))<|some (.inl (at_+(1:Int)))) else(some (.inr at_))
def zbn_p0(s:BA)(at_:Int):Option Int :=
 qAr (λx:Int=>zbn_p0_step s x) at_
def zbn_s(s:BA)(at_:Int):Option Int :=
 (zbn_p0 s at_).bind λo3 =>some o3
def zbn_G:Nat->Option CQ:=tblQ [(63,zbm_w)]
def zbn_d0:=(dQS (qAb (dSO 0 dS) (qAb (dSO 1 dZ) dNil)) dNil)
def zbn_l0:SubQ:=mkL zbn_d0 (λx=>zbn_p0 x.1.1 x.1.2.1) λx r R kn kx kr=>kx 0 ⟨[sL 1 (.vI r)],[],[]⟩
def zbn_L:Nat->SubQ:=tblL [(0,zbn_l0)]
theorem zbn_sub0:qA3 zbn_L zbn_G 0 5 11 0 zbn_b0:=qAj (show zbn_L 0=zbn_l0 from by kernel_rfl) λx R kn kx kr=>qAh (step:=λy=>zbn_p0_step x.1.1 y) (enc:=λ(y:Int)=>zbn_d0.e ((x.1.1,y,x.1.2.2),x.2)) (λy=>by kernel_rfl) (λy ki=>by simp only[zbn_p0_step,-eq_self,sZ];kernel_rfl) x.1.2.1
def zbn_c:CS:=mkC (qAb (dVC (dCO dS)) (qAb (dVC (dCO dZ)) dNil)) dNil (λx y=>zbn_s x.1 x.2.1) (λx y r=>.c (.o (.vI r))) λx y r=>[]
theorem zbn_val:qAi Tryd.prog 57 zbn_c:=vl1 zbn_q [.tmp 4] 11 5 0 (show qAt zbn_L zbn_G 0 5 11 [(0,zbn_b0)] from⟨zbn_sub0,tV⟩) (qAk ⟨zbm_ok,tV⟩) λx y=>by
 simp only[zbn_s,-eq_self,sZ];kernel_rfl
def zbn_w:CQ:=qDx [] zbn_c
theorem zbn_ok:qAg Tryd.prog 57 zbn_w:=qAs zbn_val
def zbk_b3:IQ:=(.loop [0,2,4,7,9,10] (.seq (.seq (rg 140 [oM 138 t10,oM 139 t9,oP 140 (.bi .lss t138 t139)]) (.cond t140 .skip (.cn [0,2,4,7,9] (.exit 0)))) (.seq (.block 1 (.seq (rg 152 [oM 143 t0,oM 144 t10,oP 145 (.index t143 t144),oP 146 (.bi .neq t145 (vC 48)),oM 147 t146,oE 148 (.faddr 4 t4) 147,oE 149 (.load none t148) 147,oE 150 (.len t149) 147,oE 151 (.bi .gtr t150 (vI 0)) 147,oP 152 (.pick t147 vT t151)]) (.cond t152 (.reg 0 (some [0,1,2,3,4,5,6,7,8,9,10]) [oP 153 (.faddr 4 t4),oP 154 (.load none t153),oM 155 t0,oM 156 t10,oP 157 (.index t155 t156),oP 158 (.bi .sub t157 (vC 48)),oP 159 (.conv false .i64 t158),oP 160 (.bslice 3 1 1 [.int .i64 0] [(0,t159)]),oP 161 (.append 3 1 8 [.int .i64 0] t154 t160),oP 162 (.faddr 4 t4),oN (.store 1 t162 t161)]) .skip))) (rg 10 [oM 141 t10,oP 142 (.bi .add t141 (vI 1)),oM 10 t142]))))
def zbk_b2:IQ:=(.join [] [0,2,4,5,7] (.seq (rg 9 [oM 130 t0,oM 131 t5,oP 132 (.call 57 [t130,t131]),oM 9 t132]) (.seq (.seq (rg 135 [oM 133 t9,oM 134 t5,oP 135 (.bi .eql t133 t134)]) (.cond t135 (.seq (rg 3 [oP 136 (.load (some 7) t4),oN (.store 7 t2 t136),oP 3 (.mv vF)]) (.canon [(2,some 1,.i64,3),(2,some 4,.i64,3)] [2,3] .ret)) .skip)) (.seq (.seq (rg 10 [oM 137 t5,oM 10 t137]) (.block 0 (.canon [(4,some 4,.i64,3)] [0,2,4,7,9,10] (.sub 3 zbk_b3)))) (rg 5 [oM 163 t9,oM 5 t163])))))
def zbk_b5:IQ:=(.loop [2,4,7,11] (.seq (.seq (rg 172 [oM 169 t11,oM 170 t7,oP 171 (.lenS t170),oP 172 (.bi .lss t169 t171)]) (.cond t172 .skip (.cn [2,4] (.exit 2)))) (.seq (.block 3 (.seq (rg 12 [oM 175 t7,oM 176 t11,oP 177 (.index t175 t176),oP 178 (.bi .sub t177 (vC 48)),oP 179 (.conv false .i64 t178),oM 12 t179]) (.seq (rg 187 [oM 180 t12,oP 181 (.bi .neq t180 (vI 0)),oM 182 t181,oE 183 (.faddr 1 t4) 182,oE 184 (.load none t183) 182,oE 185 (.len t184) 182,oE 186 (.bi .gtr t185 (vI 0)) 182,oP 187 (.pick t182 vT t186)]) (.cond t187 (rg 0 [oP 188 (.faddr 1 t4),oP 189 (.load none t188),oM 190 t12,oP 191 (.bslice 3 1 1 [.int .i64 0] [(0,t190)]),oP 192 (.append 3 1 8 [.int .i64 0] t189 t191),oP 193 (.faddr 1 t4),oN (.store 1 t193 t192)]) (rg 0 [oP 194 (.faddr 2 t4),oP 195 (.load none t194),oP 196 (.bi .sub t195 (vI 1)),oP 197 (.faddr 2 t4),oN (.store 1 t197 t196)]))))) (rg 11 [oM 173 t11,oP 174 (.bi .add t173 (vI 1)),oM 11 t174]))))
def zbk_b6:IQ:=(.loop [2,4] (.seq (.seq (rg 212 [oP 198 (.faddr 1 t4),oP 199 (.load none t198),oP 200 (.len t199),oP 201 (.bi .gtr t200 (vI 0)),oM 202 t201,oF 203 (.faddr 1 t4) 202,oF 204 (.load none t203) 202,oF 205 (.faddr 1 t4) 202,oF 206 (.load none t205) 202,oF 207 (.len t206) 202,oF 208 (.bi .sub t207 (vI 1)) 202,oF 209 (.iaddr 1 t204 t208) 202,oF 210 (.load none t209) 202,oF 211 (.bi .eql t210 (vI 0)) 202,oP 212 (.pick t202 t211 vF)]) (.cond t212 .skip (.cn [2,4] (.exit 4)))) (.block 5 (rg 0 [oP 213 (.faddr 1 t4),oP 214 (.load none t213),oP 215 (.faddr 1 t4),oP 216 (.load none t215),oP 217 (.len t216),oP 218 (.bi .sub t217 (vI 1)),oP 219 (.sub (some 1) t214 none (some t218)),oP 220 (.faddr 1 t4),oN (.store 1 t220 t219)]))))
def zbk_b4:IQ:=(.seq (.seq (rg 167 [oM 164 t5,oM 165 t0,oP 166 (.lenS t165),oP 167 (.bi .neq t164 t166)]) (.cond t167 (.seq (rg 3 [oP 168 (.load (some 7) t4),oN (.store 7 t2 t168),oP 3 (.mv vF)]) (.canon [(2,some 1,.i64,3),(2,some 4,.i64,3)] [2,3] .ret)) .skip)) (.seq (.seq (rg 11 [oP 11 (.mv (vI 0))]) (.block 2 (.canon [(4,some 1,.i64,3)] [2,4,7,11] (.sub 5 zbk_b5)))) (.seq (.block 4 (.cn [2,4] (.sub 6 zbk_b6))) (.seq (rg 3 [oP 221 (.load (some 7) t4),oN (.store 7 t2 t221),oP 3 (.mv vT)]) (.canon [(2,some 1,.i64,3),(2,some 4,.i64,3)] [2,3] .ret)))))
def zbk_b1:IQ:=(.seq (.seq (rg 103 [oM 88 t5,oM 89 t0,oP 90 (.lenS t89),oP 91 (.bi .lss t88 t90),oM 92 t91,oF 93 (.mv t0) 92,oF 94 (.mv t5) 92,oF 95 (.index t93 t94) 92,oF 96 (.bi .eql t95 (vC 101)) 92,oF 97 (.mv t96) 92,oE 98 (.mv t0) 97,oE 99 (.mv t5) 97,oE 100 (.index t98 t99) 97,oE 101 (.bi .eql t100 (vC 69)) 97,oF 102 (.pick t97 vT t101) 92,oP 103 (.pick t92 t102 vF)]) (.cond t103 (.seq (rg 0 [oP 104 (.faddr 5 t4),oN (.store 1 t104 vF)]) (.seq (rg 5 [oM 105 t5,oP 106 (.bi .add t105 (vI 1)),oM 5 t106]) (.seq (.seq (rg 122 [oM 107 t5,oM 108 t0,oP 109 (.lenS t108),oP 110 (.bi .lss t107 t109),oM 111 t110,oF 112 (.mv t0) 111,oF 113 (.mv t5) 111,oF 114 (.index t112 t113) 111,oF 115 (.bi .eql t114 (vC 43)) 111,oF 116 (.mv t115) 111,oE 117 (.mv t0) 116,oE 118 (.mv t5) 116,oE 119 (.index t117 t118) 116,oE 120 (.bi .eql t119 (vC 45)) 116,oF 121 (.pick t116 vT t120) 111,oP 122 (.pick t111 t121 vF)]) (.cond t122 (.seq (rg 0 [oM 123 t0,oM 124 t5,oP 125 (.index t123 t124),oP 126 (.bi .eql t125 (vC 45)),oP 127 (.faddr 3 t4),oN (.store 1 t127 t126)]) (rg 5 [oM 128 t5,oP 129 (.bi .add t128 (vI 1)),oM 5 t129])) .skip)) (.cn [0,2,4,5,7] (.sub 2 zbk_b2))))) .skip)) (.canon [(4,some 4,.i64,3)] [0,2,4,5,7] (.sub 4 zbk_b4)))
def zbk_b0:IQ:=(.seq (rg 6 [oM 27 t5,oM 6 t27]) (.seq (rg 5 [oM 28 t0,oM 29 t5,oP 30 (.call 57 [t28,t29]),oM 5 t30]) (.seq (.seq (rg 45 [oM 31 t5,oM 32 t6,oP 33 (.bi .eql t31 t32),oM 34 t33,oE 35 (.mv t0) 34,oE 36 (.mv t6) 34,oE 37 (.index t35 t36) 34,oE 38 (.bi .eql t37 (vC 48)) 34,oE 39 (.mv t38) 34,oF 40 (.mv t5) 39,oF 41 (.mv t6) 39,oF 42 (.bi .add t41 (vI 1)) 39,oF 43 (.bi .gtr t40 t42) 39,oE 44 (.pick t39 t43 vF) 34,oP 45 (.pick t34 vT t44)]) (.cond t45 (.seq (rg 3 [oP 46 (.load (some 7) t4),oN (.store 7 t2 t46),oP 3 (.mv vF)]) (.canon [(2,some 1,.i64,3),(2,some 4,.i64,3)] [2,3] .ret)) .skip)) (.seq (rg 0 [oM 47 t0,oM 48 t6,oM 49 t5,oP 50 (.sub none t47 (some t48) (some t49)),oP 51 (.faddr 6 t4),oN (.store 1 t51 t50)]) (.seq (rg 7 [oM 52 t0,oM 53 t6,oM 54 t5,oP 55 (.sub none t52 (some t53) (some t54)),oM 7 t55]) (.seq (rg 0 [oM 56 t5,oM 57 t6,oP 58 (.bi .sub t56 t57),oP 59 (.faddr 2 t4),oN (.store 1 t59 t58)]) (.seq (.seq (rg 69 [oM 60 t5,oM 61 t0,oP 62 (.lenS t61),oP 63 (.bi .lss t60 t62),oM 64 t63,oF 65 (.mv t0) 64,oF 66 (.mv t5) 64,oF 67 (.index t65 t66) 64,oF 68 (.bi .eql t67 (vC 46)) 64,oP 69 (.pick t64 t68 vF)]) (.cond t69 (.seq (rg 0 [oP 70 (.faddr 5 t4),oN (.store 1 t70 vF)]) (.seq (rg 8 [oM 71 t0,oM 72 t5,oP 73 (.bi .add t72 (vI 1)),oP 74 (.call 57 [t71,t73]),oM 8 t74]) (.seq (.seq (rg 78 [oM 75 t8,oM 76 t5,oP 77 (.bi .add t76 (vI 1)),oP 78 (.bi .eql t75 t77)]) (.cond t78 (.seq (rg 3 [oP 79 (.load (some 7) t4),oN (.store 7 t2 t79),oP 3 (.mv vF)]) (.canon [(2,some 1,.i64,3),(2,some 4,.i64,3)] [2,3] .ret)) .skip)) (.seq (rg 7 [oM 80 t7,oM 81 t0,oM 82 t5,oP 83 (.bi .add t82 (vI 1)),oM 84 t8,oP 85 (.sub none t81 (some t83) (some t84)),oP 86 (.bi .add t80 t85),oM 7 t86]) (rg 5 [oM 87 t8,oM 5 t87]))))) .skip)) (.cn [0,2,4,5,7] (.sub 1 zbk_b1)))))))))
def zbk_q:IQ:=(.seq (rg 3 [oP 2 (.alloc 78 [.bool false,.slice none 0 0,.int .i64 0,.bool false,.slice none 0 0,.bool false,.string ⟨#[]⟩]),oP 3 (.mv vF)]) (.seq (rg 0 [oP 13 (.build [.bool false,.slice none 0 0,.int .i64 0,.bool false,.slice none 0 0,.bool false,.string ⟨#[]⟩] [(5,1,vT)]),oP 4 (.alloc 78 [.bool false,.slice none 0 0,.int .i64 0,.bool false,.slice none 0 0,.bool false,.string ⟨#[]⟩]),oN (.store 7 t4 t13)]) (.seq (rg 5 [oP 5 (.mv (vI 0))]) (.seq (.seq (rg 23 [oM 14 t5,oM 15 t0,oP 16 (.lenS t15),oP 17 (.bi .lss t14 t16),oM 18 t17,oF 19 (.mv t0) 18,oF 20 (.mv t5) 18,oF 21 (.index t19 t20) 18,oF 22 (.bi .eql t21 (vC 45)) 18,oP 23 (.pick t18 t22 vF)]) (.cond t23 (.seq (rg 0 [oP 24 (.faddr 0 t4),oN (.store 1 t24 vT)]) (rg 5 [oM 25 t5,oP 26 (.bi .add t25 (vI 1)),oM 5 t26])) .skip)) (.cn [0,2,4,5] (.sub 0 zbk_b0))))))
def zbk_p3_step(s:BA)(k_ i:Int)(qIc:List Int):Option ((Int × (List Int)) ⊕ ((List Int))) :=
 bif decide (i<k_) then(gd (0<=i/\i<s.size)<|bif((!decide ((bAt s i)=(48:Int))) || (decide ((0:Int)<(qIc.length:Int)))) then(gd (0<=i/\i<s.size)<|gd (qAc (((bAt s i) - (48:Int)) % 256))<|gd (qIc.length+([(((bAt s i) - (48:Int)) % 256)]:List Int).length<=9223372036854775807/\(qIc.length+([(((bAt s i) - (48:Int)) % 256)]:List Int).length)*8<=140737488355328)<|gd (qAc (i+(1:Int)))<|some (.inl ((i+(1:Int)),(qIc++[(((bAt s i) - (48:Int)) % 256)])))) else(gd (qAc (i+(1:Int)))<|some (.inl ((i+(1:Int)),qIc)))) else(some (.inr qIc))
def zbk_p3(s:BA)(k_ i:Int)(qIc:List Int):Option ((List Int)) :=
 qAr (λx:(Int × (List Int))=>zbk_p3_step s k_ x.1 x.2) (i,qIc)
def zbk_p2(s:BA)(at_:Int):Option ((Bool × (List Int) × (List Int)) ⊕ (Int × (List Int))) :=
 (zbn_s s at_).bind λr81 =>bif decide (r81=at_) then(some (.inl (false,[],[]))) else((zbk_p3 s r81 at_ []).bind λo82 =>some (.inr (r81,o82)))
def zbk_p5_step(all:BA)(i qH7:Int)(qHx:List Int):Option ((Int × Int × (List Int)) ⊕ (Int × (List Int))) :=
 bif decide (i<(all.size:Int)) then(gd (0<=i/\i<all.size)<|gd (qAc (((bAt all i) - (48:Int)) % 256))<|bif((!decide ((((bAt all i) - (48:Int)) % 256)=(0:Int))) || (decide ((0:Int)<(qHx.length:Int)))) then(gd (qHx.length+([(((bAt all i) - (48:Int)) % 256)]:List Int).length<=9223372036854775807/\(qHx.length+([(((bAt all i) - (48:Int)) % 256)]:List Int).length)*8<=140737488355328)<|gd (qAc (i+(1:Int)))<|some (.inl ((i+(1:Int)),qH7,(qHx++[(((bAt all i) - (48:Int)) % 256)])))) else(gd (qAc (qH7 - (1:Int)))<|gd (qAc (i+(1:Int)))<|some (.inl ((i+(1:Int)),(qH7 - (1:Int)),qHx)))) else(some (.inr (qH7,qHx)))
def zbk_p5(all:BA)(i qH7:Int)(qHx:List Int):Option (Int × (List Int)) :=
 qAr (λx:(Int × Int × (List Int))=>zbk_p5_step all x.1 x.2.1 x.2.2) (i,qH7,qHx)
def zbk_p6_step(qHx:List Int):Option (((List Int)) ⊕ ((List Int))) :=
 gd ((decide ((0:Int)<(qHx.length:Int)))=true->qAc ((qHx.length:Int) - (1:Int)))<|gd ((decide ((0:Int)<(qHx.length:Int)))=true->0<=((qHx.length:Int) - (1:Int))/\((qHx.length:Int) - (1:Int))<qHx.length)<|gd ((decide ((0:Int)<(qHx.length:Int)))=true->(Int.toNat ((qHx.length:Int) - (1:Int)))<qHx.length)<|bif((decide ((0:Int)<(qHx.length:Int))) && (decide ((qHx.getD (Int.toNat ((qHx.length:Int) - (1:Int))) (ET.dft .i64))=(0:Int)))) then(gd (qAc ((qHx.length:Int) - (1:Int)))<|gd (0<=((qHx.length:Int) - (1:Int))/\((qHx.length:Int) - (1:Int))<=qHx.length)<|some (.inl (qHx.take (Int.toNat ((qHx.length:Int) - (1:Int)))))) else(some (.inr qHx))
def zbk_p6(qHx:List Int):Option ((List Int)) :=
 qAr (λx:((List Int))=>zbk_p6_step x) qHx
def zbk_p4(s:BA)(at_:Int)(all:BA)(qH7:Int):Option (Bool × Int × (List Int)) :=
 bif(!decide (at_=(s.size:Int))) then(some (false,qH7,[])) else((zbk_p5 all (0:Int) qH7 []).bind λo84 =>(zbk_p6 o84.2).bind λo85 =>some (true,o84.1,o85))
def zbk_p1(s:BA)(at_:Int)(all:BA)(qH7:Int)(qIa qIh:Bool):Option (Bool × Int × Bool × Bool × (List Int) × (List Int)) :=
 gd ((decide (at_<(s.size:Int)))=true->0<=at_/\at_<s.size)<|gd ((decide ((bAt s at_)=(101:Int)))=false->(decide (at_<(s.size:Int)))=true->0<=at_/\at_<s.size)<|bif((decide (at_<(s.size:Int))) && ((decide ((bAt s at_)=(101:Int))) || (decide ((bAt s at_)=(69:Int))))) then(gd (qAc (at_+(1:Int)))<|gd ((decide ((at_+(1:Int))<(s.size:Int)))=true->0<=(at_+(1:Int))/\(at_+(1:Int))<s.size)<|gd ((decide ((bAt s (at_+(1:Int)))=(43:Int)))=false->(decide ((at_+(1:Int))<(s.size:Int)))=true->0<=(at_+(1:Int))/\(at_+(1:Int))<s.size)<|bif((decide ((at_+(1:Int))<(s.size:Int))) && ((decide ((bAt s (at_+(1:Int)))=(43:Int))) || (decide ((bAt s (at_+(1:Int)))=(45:Int))))) then(gd (0<=(at_+(1:Int))/\(at_+(1:Int))<s.size)<|gd (qAc ((at_+(1:Int))+(1:Int)))<|(zbk_p2 s ((at_+(1:Int))+(1:Int))).bind λo83=>(Sum.elim (λ(o83_0:Bool × (List Int) × (List Int)) =>some (o83_0.1,qH7,decide ((bAt s (at_+(1:Int)))=(45:Int)),false,o83_0.2.1,o83_0.2.2)) (λ(o83_1:Int × (List Int)) =>(zbk_p4 s o83_1.1 all qH7).bind λo86 =>some (o86.1,o86.2.1,decide ((bAt s (at_+(1:Int)))=(45:Int)),false,o86.2.2,o83_1.2))) o83) else((zbk_p2 s (at_+(1:Int))).bind λo87=>(Sum.elim (λ(o87_0:Bool × (List Int) × (List Int)) =>some (o87_0.1,qH7,qIa,false,o87_0.2.1,o87_0.2.2)) (λ(o87_1:Int × (List Int)) =>(zbk_p4 s o87_1.1 all qH7).bind λo88 =>some (o88.1,o88.2.1,qIa,false,o88.2.2,o87_1.2))) o87)) else((zbk_p4 s at_ all qH7).bind λo89 =>some (o89.1,o89.2.1,qIa,qIh,o89.2.2,[]))
def zbk_p0(s:BA)(at_ qH7:Int)(qIa qIh:Bool)(qH0:BA):Option (Bool × Int × Bool × Bool × BA × (List Int) × (List Int)) :=
 (zbn_s s at_).bind λr79 =>gd ((decide (r79=at_))=false->0<=at_/\at_<s.size)<|gd ((decide ((bAt s at_)=(48:Int)))=true->(decide (r79=at_))=false->qAc (at_+(1:Int)))<|bif((decide (r79=at_)) || ((decide ((bAt s at_)=(48:Int))) && (decide ((at_+(1:Int))<r79)))) then(some (false,qH7,qIa,qIh,qH0,[],[])) else(gd (0<=at_/\at_<=r79/\r79<=s.size)<|gd (0<=at_/\at_<=r79/\r79<=s.size)<|gd (qAc (r79 - at_))<|gd ((decide (r79<(s.size:Int)))=true->0<=r79/\r79<s.size)<|bif((decide (r79<(s.size:Int))) && (decide ((bAt s r79)=(46:Int)))) then(gd (qAc (r79+(1:Int)))<|(zbn_s s (r79+(1:Int))).bind λr80 =>gd (qAc (r79+(1:Int)))<|bif decide (r80=(r79+(1:Int))) then(some (false,(r79 - at_),qIa,false,(s.extract at_.toNat r79.toNat),[],[])) else(gd (qAc (r79+(1:Int)))<|gd (0<=(r79+(1:Int))/\(r79+(1:Int))<=r80/\r80<=s.size)<|gd ((s.extract at_.toNat r79.toNat).size+(s.extract (Int.toNat (r79+(1:Int))) r80.toNat).size<=9223372036854775807)<|(zbk_p1 s r80 ((s.extract at_.toNat r79.toNat)++(s.extract (Int.toNat (r79+(1:Int))) r80.toNat)) (r79 - at_) qIa false).bind λo90 =>some (o90.1,o90.2.1,o90.2.2.1,o90.2.2.2.1,(s.extract at_.toNat r79.toNat),o90.2.2.2.2.1,o90.2.2.2.2.2))) else((zbk_p1 s r79 (s.extract at_.toNat r79.toNat) (r79 - at_) qIa qIh).bind λo91 =>some (o91.1,o91.2.1,o91.2.2.1,o91.2.2.2.1,(s.extract at_.toNat r79.toNat),o91.2.2.2.2.1,o91.2.2.2.2.2)))
def zbk_s(s:BA):Option (qH9 × Bool) :=
 gd ((decide ((0:Int)<(s.size:Int)))=true->0<=(0:Int)/\(0:Int)<s.size)<|bif((decide ((0:Int)<(s.size:Int))) && (decide ((bAt s (0:Int))=(45:Int)))) then(gd (qAc ((0:Int)+(1:Int)))<|(zbk_p0 s ((0:Int)+(1:Int)) (0:Int) false true (⟨#[]⟩:BA)).bind λo92 =>some ((⟨true,o92.2.2.2.2.2.1,o92.2.1,o92.2.2.1,o92.2.2.2.2.2.2,o92.2.2.2.1,o92.2.2.2.2.1⟩:qH9),o92.1)) else((zbk_p0 s (0:Int) (0:Int) false true (⟨#[]⟩:BA)).bind λo93 =>some ((⟨false,o93.2.2.2.2.2.1,o93.2.1,o93.2.2.1,o93.2.2.2.2.2.2,o93.2.2.2.1,o93.2.2.2.2.1⟩:qH9),o93.1))
def zbk_G:Nat->Option CQ:=tblQ [(57,zbn_w)]
def zDGC2:=(qDy 78 (qAb dB (qAb dNS (qAb dZ (qAb dB (qAb dNS (qAb dB (qAb dS dNil))))))))
def zDGC6:=(qAb dZ (qAb dB (qAb (dO 2) (qAb dB (qAb dS dNil)))))
def zbk_d3:=(dQS (qAb (dSO 0 dS) (qAb (dSO 2 (dH 0 0)) (qAb (dSO 4 (dH 1 0)) (qAb (dSO 7 dS) (qAb (dSO 9 dZ) (qAb (dSO 10 dZ) dNil)))))) (qAb zDGC2 (qAb (qDy 78 (qAb dB (qAb dNS zDGC6))) (qAb (dRow .i64 3) dNil))))
def zbk_l3:SubQ:=mkL zbk_d3 (λx=>zbk_p3 x.1.1 x.1.2.2.2.2.1 x.1.2.2.2.2.2.1 x.2.2.2.1) λx r R kn kx kr=>kx 0 ⟨[sL 0 (.vS x.1.1),sL 2 (.hd 0 0),sL 4 (.hd 1 0),sL 7 (.vS x.1.2.2.2.1),sL 9 (.vI x.1.2.2.2.2.1)],[],[.cells 78 [.vB x.2.1.1,.val (.slice none 0 0),.vI x.2.1.2.2.1,.vB x.2.1.2.2.2.1,.val (.slice none 0 0),.vB x.2.1.2.2.2.2.2.1,.vS x.2.1.2.2.2.2.2.2.1],.cells 78 [.vB x.2.2.1.1,.val (.slice none 0 0),.vI x.2.2.1.2.2.1,.vB x.2.2.1.2.2.2.1,.own 2,.vB x.2.2.1.2.2.2.2.2.1,.vS x.2.2.1.2.2.2.2.2.2.1],.row .i64 3 r]⟩
def zDGC4:=(qAb (dSO 0 dS) (qAb (dSO 2 (dH 0 0)) (qAb (dSO 4 (dH 1 0)) (qAb (dSO 5 dZ) (qAb (dSO 7 dS) dNil)))))
def zDGC8:=(qAb zDGC2 (qAb zDGC2 dNil))
def zbk_d2:=(dQS zDGC4 zDGC8)
def zbk_l2:SubQ:=mkL zbk_d2 (λx=>zbk_p2 x.1.1 x.1.2.2.2.1) λx r R kn kx kr=>(Sum.elim (λ(r_0:Bool × (List Int) × (List Int))=>kr ⟨[sL 2 (.hd 0 0),sL 3 (.vB r_0.1)],[],[.cells 78 [.vB x.2.2.1.1,.own 1,.vI x.2.2.1.2.2.1,.vB x.2.2.1.2.2.2.1,.own 2,.vB x.2.2.1.2.2.2.2.2.1,.vS x.2.2.1.2.2.2.2.2.2.1],.row .i64 3 r_0.2.1,.row .i64 3 r_0.2.2]⟩) (λ(r_1:Int × (List Int))=>kn ⟨[sL 0 (.vS x.1.1),sL 2 (.hd 0 0),sL 4 (.hd 1 0),sL 5 (.vI r_1.1),sL 7 (.vS x.1.2.2.2.2.1)],[],[.cells 78 [.vB x.2.1.1,.val (.slice none 0 0),.vI x.2.1.2.2.1,.vB x.2.1.2.2.2.1,.val (.slice none 0 0),.vB x.2.1.2.2.2.2.2.1,.vS x.2.1.2.2.2.2.2.2.1],.cells 78 [.vB x.2.2.1.1,.val (.slice none 0 0),.vI x.2.2.1.2.2.1,.vB x.2.2.1.2.2.2.1,.own 2,.vB x.2.2.1.2.2.2.2.2.1,.vS x.2.2.1.2.2.2.2.2.2.1],.row .i64 3 r_1.2]⟩)) r
def zDGC7:=(qAb (dRow .i64 3) (qAb (dRow .i64 3) dNil))
def zbk_d5:=(dQS (qAb (dSO 2 (dH 0 0)) (qAb (dSO 4 (dH 1 0)) (qAb (dSO 7 dS) (qAb (dSO 11 dZ) dNil)))) (qAb zDGC2 (qAb (qDy 78 (qAb dB (qAb (dO 2) (qAb dZ (qAb dB (qAb (dO 3) (qAb dB (qAb dS dNil)))))))) zDGC7)))
def zbk_l5:SubQ:=mkL zbk_d5 (λx=>zbk_p5 x.1.2.2.1 x.1.2.2.2.1 x.2.2.1.2.2.1 x.2.2.2.1) λx r R kn kx kr=>kx 2 ⟨[sL 2 (.hd 0 0),sL 4 (.hd 1 0)],[],[.cells 78 [.vB x.2.1.1,.val (.slice none 0 0),.vI x.2.1.2.2.1,.vB x.2.1.2.2.2.1,.val (.slice none 0 0),.vB x.2.1.2.2.2.2.2.1,.vS x.2.1.2.2.2.2.2.2.1],.cells 78 [.vB x.2.2.1.1,.own 2,.vI r.1,.vB x.2.2.1.2.2.2.1,.own 3,.vB x.2.2.1.2.2.2.2.2.1,.vS x.2.2.1.2.2.2.2.2.2.1],.row .i64 3 r.2,.row .i64 3 x.2.2.2.2.1]⟩
def zbk_d6:=(dQS (qAb (dSO 2 (dH 0 0)) (qAb (dSO 4 (dH 1 0)) dNil)) (qAb zDGC2 (qAb (qDy 78 (qAb dB (qAb (dO 2) (qAb dZ (qAb dB (qAb (dO 3) (qAb dB (qAb dS dNil)))))))) zDGC7)))
def zbk_l6:SubQ:=mkL zbk_d6 (λx=>zbk_p6 x.2.2.2.1) λx r R kn kx kr=>kx 4 ⟨[sL 2 (.hd 0 0),sL 4 (.hd 1 0)],[],[.cells 78 [.vB x.2.1.1,.val (.slice none 0 0),.vI x.2.1.2.2.1,.vB x.2.1.2.2.2.1,.val (.slice none 0 0),.vB x.2.1.2.2.2.2.2.1,.vS x.2.1.2.2.2.2.2.2.1],.cells 78 [.vB x.2.2.1.1,.own 2,.vI x.2.2.1.2.2.1,.vB x.2.2.1.2.2.2.1,.own 3,.vB x.2.2.1.2.2.2.2.2.1,.vS x.2.2.1.2.2.2.2.2.2.1],.row .i64 3 r,.row .i64 3 x.2.2.2.2.1]⟩
def zbk_d4:=(dQS zDGC4 (qAb zDGC2 (qAb (qDy 78 (qAb dB (qAb dNS zDGC6))) (qAb (dRow .i64 3) dNil))))
def zbk_l4:SubQ:=mkL zbk_d4 (λx=>zbk_p4 x.1.1 x.1.2.2.2.1 x.1.2.2.2.2.1 x.2.2.1.2.2.1) λx r R kn kx kr=>kr ⟨[sL 2 (.hd 0 0),sL 3 (.vB r.1)],[],[.cells 78 [.vB x.2.2.1.1,.own 1,.vI r.2.1,.vB x.2.2.1.2.2.2.1,.own 2,.vB x.2.2.1.2.2.2.2.2.1,.vS x.2.2.1.2.2.2.2.2.2.1],.row .i64 3 r.2.2,.row .i64 3 x.2.2.2.1]⟩
def zbk_d1:=(dQS zDGC4 zDGC8)
def zbk_l1:SubQ:=mkL zbk_d1 (λx=>zbk_p1 x.1.1 x.1.2.2.2.1 x.1.2.2.2.2.1 x.2.2.1.2.2.1 x.2.2.1.2.2.2.1 x.2.2.1.2.2.2.2.2.1) λx r R kn kx kr=>kr ⟨[sL 2 (.hd 0 0),sL 3 (.vB r.1)],[],[.cells 78 [.vB x.2.2.1.1,.own 1,.vI r.2.1,.vB r.2.2.1,.own 2,.vB r.2.2.2.1,.vS x.2.2.1.2.2.2.2.2.2.1],.row .i64 3 r.2.2.2.2.1,.row .i64 3 r.2.2.2.2.2]⟩
def zbk_d0:=(dQS (qAb (dSO 0 dS) (qAb (dSO 2 (dH 0 0)) (qAb (dSO 4 (dH 1 0)) (qAb (dSO 5 dZ) dNil)))) zDGC8)
def zbk_l0:SubQ:=mkL zbk_d0 (λx=>zbk_p0 x.1.1 x.1.2.2.2.1 x.2.2.1.2.2.1 x.2.2.1.2.2.2.1 x.2.2.1.2.2.2.2.2.1 x.2.2.1.2.2.2.2.2.2.1) λx r R kn kx kr=>kr ⟨[sL 2 (.hd 0 0),sL 3 (.vB r.1)],[],[.cells 78 [.vB x.2.2.1.1,.own 1,.vI r.2.1,.vB r.2.2.1,.own 2,.vB r.2.2.2.1,.vS r.2.2.2.2.1],.row .i64 3 r.2.2.2.2.2.1,.row .i64 3 r.2.2.2.2.2.2]⟩
def zbk_L:Nat->SubQ:=tblL [(3,zbk_l3),(2,zbk_l2),(5,zbk_l5),(6,zbk_l6),(4,zbk_l4),(1,zbk_l1),(0,zbk_l0)]
theorem zbk_sub3:qA3 zbk_L zbk_G 0 13 222 3 zbk_b3:=qAj (show zbk_L 3=zbk_l3 from by kernel_rfl) λx R kn kx kr=>qAh (step:=λy=>zbk_p3_step x.1.1 x.1.2.2.2.2.1 y.1 y.2) (enc:=λ(y:Int × (List Int))=>zbk_d3.e ((x.1.1,x.1.2.1,x.1.2.2.1,x.1.2.2.2.1,x.1.2.2.2.2.1,y.1,x.1.2.2.2.2.2.2),(x.2.1,x.2.2.1,y.2,x.2.2.2.2))) (λy=>by kernel_rfl) (λy ki=>by simp only[zbk_p3_step,-eq_self,sZ];kernel_rfl) (x.1.2.2.2.2.2.1,x.2.2.2.1)
theorem zbk_sub2:qA3 zbk_L zbk_G 0 13 222 2 zbk_b2:=qAj (show zbk_L 2=zbk_l2 from by kernel_rfl) λx R kn kx kr=>by
 simp only[zbk_p2,-eq_self,sZ];kernel_rfl
theorem zbk_sub5:qA3 zbk_L zbk_G 0 13 222 5 zbk_b5:=qAj (show zbk_L 5=zbk_l5 from by kernel_rfl) λx R kn kx kr=>qAh (step:=λy=>zbk_p5_step x.1.2.2.1 y.1 y.2.1 y.2.2) (enc:=λ(y:Int × Int × (List Int))=>zbk_d5.e ((x.1.1,x.1.2.1,x.1.2.2.1,y.1,x.1.2.2.2.2),(x.2.1,(x.2.2.1.1,x.2.2.1.2.1,y.2.1,x.2.2.1.2.2.2),y.2.2,x.2.2.2.2))) (λy=>by kernel_rfl) (λy ki=>by simp only[zbk_p5_step,-eq_self,sZ];kernel_rfl) (x.1.2.2.2.1,x.2.2.1.2.2.1,x.2.2.2.1)
theorem zbk_sub6:qA3 zbk_L zbk_G 0 13 222 6 zbk_b6:=qAj (show zbk_L 6=zbk_l6 from by kernel_rfl) λx R kn kx kr=>qAh (step:=λy=>zbk_p6_step y) (enc:=λ(y:(List Int))=>zbk_d6.e (x.1,(x.2.1,x.2.2.1,y,x.2.2.2.2))) (λy=>by kernel_rfl) (λy ki=>by simp only[zbk_p6_step,-eq_self,sZ];kernel_rfl) x.2.2.2.1
theorem zbk_sub4:qA3 zbk_L zbk_G 0 13 222 4 zbk_b4:=qAj (show zbk_L 4=zbk_l4 from by kernel_rfl) λx R kn kx kr=>by
 simp only[zbk_p4,-eq_self,sZ];kernel_rfl
theorem zbk_sub1:qA3 zbk_L zbk_G 0 13 222 1 zbk_b1:=qAj (show zbk_L 1=zbk_l1 from by kernel_rfl) λx R kn kx kr=>by
 simp only[zbk_p1,-eq_self,sZ];kernel_rfl
theorem zbk_sub0:qA3 zbk_L zbk_G 0 13 222 0 zbk_b0:=qAj (show zbk_L 0=zbk_l0 from by kernel_rfl) λx R kn kx kr=>by
 simp only[zbk_p0,-eq_self,sZ];kernel_rfl
def zbk_c:CS:=mkC (qAb (dVC (dCO dS)) dNil) dNil (λx y=>zbk_s x.1) (λx y r=>.tup [.agg [.vB r.1.minus,.own 0,.vI r.1.off,.vB r.1.down,.own 1,.vB r.1.plain,.vS r.1.text],.o (.vB r.2)]) λx y r=>[.row .i64 3 r.1.digits,.row .i64 3 r.1.exp_]
theorem zbk_val:qAi Tryd.prog 50 zbk_c:=vl1 zbk_q [.cell 2 (some 7),.tmp 3] 222 13 0 (show qAt zbk_L zbk_G 0 13 222 [(0,zbk_b0),(1,zbk_b1),(2,zbk_b2),(3,zbk_b3),(4,zbk_b4),(5,zbk_b5),(6,zbk_b6)] from⟨zbk_sub0,zbk_sub1,zbk_sub2,zbk_sub3,zbk_sub4,zbk_sub5,zbk_sub6,tV⟩) (qAk ⟨zbn_ok,tV⟩) λx y=>by
 simp only[zbk_s,-eq_self,sZ];kernel_rfl
def zbk_w:CQ:=qBz [] zbk_c
theorem zbk_ok:qAg Tryd.prog 50 zbk_w:=qA7 zbk_val
def zbl_b0:IQ:=(.loop [4,6,7] (.seq (.seq (rg 25 [oM 21 t7,oP 22 (.faddr 6 t4),oP 23 (.load none t22),oP 24 (.lenS t23),oP 25 (.bi .lss t21 t24)]) (.cond t25 .skip (.cn [4,6] (.exit 0)))) (.seq (.block 1 (.seq (rg 8 [oP 28 (.faddr 6 t4),oP 29 (.load none t28),oM 30 t7,oP 31 (.index t29 t30),oP 32 (.bi .sub t31 (vC 48)),oP 33 (.conv false .i64 t32),oM 8 t33]) (.seq (.seq (rg 38 [oM 34 t6,oM 35 t8,oP 36 (.bi .add (.v (.int .i64 (-9223372036854775808))) t35),oP 37 (.bin true .quo t36 (vI 10)),oP 38 (.bi .lss t34 t37)]) (.cond t38 (.seq (rg 3 [oP 2 (.mv (vI 0)),oP 3 (.mv vF)]) (.cn [2,3] .ret)) .skip)) (rg 6 [oM 39 t6,oP 40 (.bi .mul (vI 10) t39),oM 41 t8,oP 42 (.bi .sub t40 t41),oM 6 t42])))) (rg 7 [oM 26 t7,oP 27 (.bi .add t26 (vI 1)),oM 7 t27]))))
def zbl_q:IQ:=(.seq (rg 3 [oP 2 (.mv (vI 0)),oP 3 (.mv vF)]) (.seq (rg 5 [oM 10 t0,oP 11 (.call 50 [t10]),oM 9 t11,oP 12 (.extract t9 0),oP 13 (.extract t9 1),oP 4 (.alloc 78 [.bool false,.slice none 0 0,.int .i64 0,.bool false,.slice none 0 0,.bool false,.string ⟨#[]⟩]),oN (.store 7 t4 t12),oM 5 t13]) (.seq (.seq (rg 20 [oM 14 t5,oP 15 (.un .not t14),oM 16 t15,oE 17 (.faddr 5 t4) 16,oE 18 (.load none t17) 16,oE 19 (.un .not t18) 16,oP 20 (.pick t16 vT t19)]) (.cond t20 (.seq (rg 3 [oP 2 (.mv (vI 0)),oP 3 (.mv vF)]) (.cn [2,3] .ret)) .skip)) (.seq (rg 6 [oP 6 (.mv (vI 0))]) (.seq (.seq (rg 7 [oP 7 (.mv (vI 0))]) (.block 0 (.cn [4,6,7] (.sub 0 zbl_b0)))) (.seq (.seq (rg 44 [oP 43 (.faddr 0 t4),oP 44 (.load none t43)]) (.cond t44 (.seq (rg 3 [oM 45 t6,oM 2 t45,oP 3 (.mv vT)]) (.cn [2,3] .ret)) .skip)) (.seq (.seq (rg 47 [oM 46 t6,oP 47 (.bi .eql t46 (.v (.int .i64 (-9223372036854775808))))]) (.cond t47 (.seq (rg 3 [oP 2 (.mv (vI 0)),oP 3 (.mv vF)]) (.cn [2,3] .ret)) .skip)) (.seq (rg 3 [oM 48 t6,oP 49 (.un .neg t48),oM 2 t49,oP 3 (.mv vT)]) (.cn [2,3] .ret)))))))))
def qEd(v i:Int)(qH0:BA):Option ((Int × Int) ⊕ ((Int × Bool) ⊕ Int)) :=
 bif decide (i<(qH0.size:Int)) then(gd (0<=i/\i<qH0.size)<|gd (qAc (((bAt qH0 i) - (48:Int)) % 256))<|gd (qAc ((-9223372036854775808:Int)+(((bAt qH0 i) - (48:Int)) % 256)))<|gd ((10:Int)≠0/\qAc (Int.tdiv ((-9223372036854775808:Int)+(((bAt qH0 i) - (48:Int)) % 256)) (10:Int)))<|bif decide (v<(Int.tdiv ((-9223372036854775808:Int)+(((bAt qH0 i) - (48:Int)) % 256)) (10:Int))) then(some (.inr (.inl ((0:Int),false)))) else(gd (qAc ((10:Int)*v))<|gd (qAc (((10:Int)*v) - (((bAt qH0 i) - (48:Int)) % 256)))<|gd (qAc (i+(1:Int)))<|some (.inl ((((10:Int)*v) - (((bAt qH0 i) - (48:Int)) % 256)),(i+(1:Int)))))) else(some (.inr (.inr v)))
def zbl_p0(v i:Int)(qH0:BA):Option ((Int × Bool) ⊕ Int) :=
 qAr (λx:(Int × Int)=>qEd x.1 x.2 qH0) (v,i)
def zbl_s(text:BA):Option (Int × Bool) :=
 (zbk_s text).bind λr3 =>bif((!r3.2) || (!r3.1.plain)) then(some ((0:Int),false)) else((zbl_p0 (0:Int) (0:Int) r3.1.text).bind λo4=>(Sum.elim (λ(o4_0:Int × Bool) =>some (o4_0.1,o4_0.2)) (λ(o4_1:Int) =>bif r3.1.minus then(some (o4_1,true)) else(bif decide (o4_1=(-9223372036854775808:Int)) then(some ((0:Int),false)) else(gd (qAc (0 - o4_1))<|some ((0 - o4_1),true))))) o4)
def zbl_G:Nat->Option CQ:=tblQ [(50,zbk_w)]
def zbl_d0:=(dQS (qAb (dSO 4 (dH 0 0)) (qAb (dSO 6 dZ) (qAb (dSO 7 dZ) dNil))) (qAb (qDy 78 (qAb dB (qAb (dO 1) zDGC6))) zDGC7))
def zbl_l0:SubQ:=mkL zbl_d0 (λx=>zbl_p0 x.1.2.1 x.1.2.2.1 x.2.1.2.2.2.2.2.2.1) λx r R kn kx kr=>(Sum.elim (λ(r_0:Int × Bool)=>kr ⟨[sL 2 (.vI r_0.1),sL 3 (.vB r_0.2)],[],[]⟩) (λ(r_1:Int)=>kx 0 ⟨[sL 4 (.hd 0 0),sL 6 (.vI r_1)],[],[.cells 78 [.vB x.2.1.1,.own 1,.vI x.2.1.2.2.1,.vB x.2.1.2.2.2.1,.own 2,.vB x.2.1.2.2.2.2.2.1,.vS x.2.1.2.2.2.2.2.2.1],.row .i64 3 x.2.2.1,.row .i64 3 x.2.2.2.1]⟩)) r
def zbl_L:Nat->SubQ:=tblL [(0,zbl_l0)]
theorem zbl_sub0:qA3 zbl_L zbl_G 0 9 50 0 zbl_b0:=qAj (show zbl_L 0=zbl_l0 from by kernel_rfl) λx R kn kx kr=>qAh (step:=λy=>qEd y.1 y.2 x.2.1.2.2.2.2.2.2.1) (enc:=λ(y:Int × Int)=>zbl_d0.e ((x.1.1,y.1,y.2,x.1.2.2.2),x.2)) (λy=>by kernel_rfl) (λy ki=>by simp only[qEd,-eq_self,sZ];kernel_rfl) (x.1.2.1,x.1.2.2.1)
def zbl_c:CS:=mkC (qAb (dVC (dCO dS)) dNil) dNil (λx y=>zbl_s x.1) (λx y r=>.tup [.o (.vI r.1),.o (.vB r.2)]) λx y r=>[]
theorem zbl_val:qAi Tryd.prog 38 zbl_c:=vl1 zbl_q [.tmp 2,.tmp 3] 50 9 0 (raws:=[37]) (show qAt zbl_L zbl_G 0 9 50 [(0,zbl_b0)] from⟨zbl_sub0,tV⟩) (qAk ⟨zbk_ok,tV⟩) λx y=>by
 simp only[zbl_s,-eq_self,sZ];kernel_rfl
def zbl_w:CQ:=qDx [] zbl_c
theorem zbl_ok:qAg Tryd.prog 38 zbl_w:=qAs zbl_val
end
theorem dV_range(s:BA)(i:Nat):0<=dV s i/\dV s i<256:=by unfold dV;omega
structure DKey where
 ds:List Int
 pow:Int
def Dig(l:List Int):Prop:=∀d∈l,0<=d/\d<=9
def LastNZ:List Int->Prop
 | []=>True
 | [d]=>d≠0
 | _::l=>LastNZ l
structure Norm (a:DKey):Prop where
 dig:Dig a.ds
 last:LastNZ a.ds
 first:∀d,a.ds.head?=some d->d≠0
end Go.Proofs.YtbokbmjcodoccabDoor
namespace Go.Proofs.YtbokbmjcodoccabDoor
open Go.Eng
end Go.Proofs.YtbokbmjcodoccabDoor
namespace Go.Proofs.YtbokbmjcodoccabDoor
open Go.Eng
end Go.Proofs.YtbokbmjcodoccabDoor
namespace Go.Proofs.YtbokbmjcodoccabDoor
open Go.Eng
def chr(d:Int):UInt8:=UInt8.ofNat ((48+d) % 256).toNat
def byteD(l:List Int):List UInt8:=l.map chr
def dotF(F:List Int):List UInt8:=if F=[] then [] else 46::byteD F
structure NumTxt (t:BA) (W F:List Int):Prop where
 txt:t.data.toList=byteD W++dotF F
 dw:Dig W
 df:Dig F
 ne:W≠[]
 head:W.head?≠some 0\/W.length=1
section
variable {t:BA} {W F:List Int} (h:NumTxt t W F)
include h
end
end Go.Proofs.YtbokbmjcodoccabDoor
namespace Go.Proofs.YtbokbmjcodoccabDoor
open Go.Eng
theorem p_digit(s:BA)(k:Nat):zbm_s s k=some (digS s k):=by
 unfold zbm_s;refine(qAa (λh=>by have:=of_decide_eq_true h;omega) _).trans ?_;refine(qAa (λh=>by have:=of_decide_eq_true (Bool.and_eq_true _ _ ▸ h).1;omega) _).trans ?_;congr 1
 unfold digS;by_cases hlt:(k:Int)<s.size
 ·simp[hlt]
 ·have:=qBl hlt;simp[hlt,this]
theorem p_many(s:BA)(hsz:s.size<4000000000000000000)(k:Nat)(hk:k<=s.size):zbn_s s k=some (qCj s k:Int):=by
 unfold zbn_s zbn_p0;rw[qDe (λx:Int=>∃j:Nat,x=j/\j<=s.size/\qCj s j=qCj s k) (λx=>s.size - x.toNat) (λ_=>(qCj s k:Int)) ?_ (x:=(k:Int)) ⟨k,rfl,hk,rfl⟩]
 ·rfl
 rintro _ ⟨j,rfl,hj,hm⟩
 unfold zbn_p0_step;rw[p_digit,obS];cases hd:digS s j with
 | true =>
  left;have hlt:=qFm hd;refine⟨((j+1:Nat):Int),?_,⟨j+1,rfl,by omega,by rw[<-hm,qDr hd]⟩,by omega,rfl⟩;refine(qAa (by unfold qAc;omega) _).trans ?_;rfl
 | false =>
  right;show some (Sum.inr (j:Int))=_;rw[<-hm,qE9 hd]
theorem dV_ne(s:BA)(i:Nat)(h:i<s.size):((!decide (bAt s i=48)):Bool)=decide (dV s i≠0):=by
 have h1:=qC4 s i;have h2:=bAt_nn (s:=s) (i:=i) (by omega) (by omega);rw[<-decide_not,decide_eq_decide];unfold dV;omega
theorem bias_or(a:Prop)[Decidable a](n:Nat):(decide a || decide ((0:Int)<(n:Int)))=decide (a\/0<n):=by
 rw[Bool.eq_iff_iff];simp
section
variable (s:BA) (hsz:s.size<1000000000)
include hsz
theorem p_ref3(a k:Nat)(hak:a<=k)(hk:k<=s.size):zbk_p3 s k a []=some (lead (qBu s a (k - a))):=by
 unfold zbk_p3;rw[qDe (λx:Int × List Int=>∃j:Nat,x=(((a+j:Nat):Int),lead (qBu s a j))/\a+j<=k) (λx=>k - x.1.toNat) (λ_=>lead (qBu s a (k - a))) ?_ (x:=((a:Int),[])) ⟨0,rfl,by omega⟩];rintro _ ⟨j,rfl,hj⟩
 unfold zbk_p3_step;have hl:=lead_le (qBu s a j);rw[dsFrom_length] at hl;by_cases hlt:a+j<k
 ·left;have hs:=lead_snoc (qBu s a j) (dV s (a+j));rw[<-dsFrom_succ] at hs;have hr:=dV_range s (a+j);refine⟨(((a+(j+1):Nat):Int),lead (qBu s a (j+1))),?_,⟨j+1,rfl,by omega⟩,by simp only;omega,rfl⟩;simp only;rw[deT (by omega),cnT];refine(qAa (by omega) _).trans ?_;rw[dV_ne s (a+j) (by omega),bias_or,hs];by_cases hc:dV s (a+j)≠0\/0<(lead (qBu s a j)).length
  ·rw[deT hc,cnT,if_pos hc];refine(qAa (by omega) _).trans ?_;refine(qAa (by unfold qAc;have:=hr;unfold dV at this;omega) _).trans ?_;refine(qAa (by simp only[List.length_singleton];omega) _).trans ?_;refine(qAa (by unfold qAc;omega) _).trans ?_;rfl
  ·rw[deF hc,cnF,if_neg hc];refine(qAa (by unfold qAc;omega) _).trans ?_;have:lead (qBu s a j)=[]:=by
    apply List.eq_nil_of_length_eq_zero;omega
   rw[this];rfl
 ·right;simp only;rw[deF (by omega),cnF,show k - a=j by omega]
theorem p_ref2(a:Nat)(ha:a<=s.size):zbk_p2 s a=some (if decide (qCj s a=a)=true then .inl (false,[],[]) else .inr ((qCj s a:Int),lead (qBu s a (qCj s a - a)))):=by
 unfold zbk_p2;rw[p_many s (by omega) a ha,obS];have:decide ((qCj s a:Int)=(a:Int))=decide (qCj s a=a):=by rw[decide_eq_decide];omega
 rw[this];cases hd:decide (qCj s a=a) with
 | true=>rfl
 | false =>
  simp only[cnF];rw[p_ref3 s hsz a (qCj s a) (manyS_ge s a) (manyS_le s a ha)];rfl
end
theorem p_ref5(t:BA)(ht:t.size<4000000000)(o:Int)(ho : -4000000000<=o/\o<=4000000000):zbk_p5 t 0 o []=some (o - ((t.size:Int) - (lead (qBu t 0 t.size)).length),lead (qBu t 0 t.size)):=by
 unfold zbk_p5;rw[qDe (λx:Int × Int × List Int=>∃j:Nat,x=((j:Int),o - ((j:Int) - (lead (qBu t 0 j)).length),lead (qBu t 0 j))/\j<=t.size) (λx=>t.size - x.1.toNat) (λ_=>(o - ((t.size:Int) - (lead (qBu t 0 t.size)).length),lead (qBu t 0 t.size))) ?_ (x:=((0:Int),o,[])) ⟨0,by simp[qBu,lead],by omega⟩];rintro _ ⟨j,rfl,hj⟩
 unfold zbk_p5_step;have hl:=lead_le (qBu t 0 j);rw[dsFrom_length] at hl;by_cases hlt:j<t.size
 ·left;have hs:=lead_snoc (qBu t 0 j) (dV t (0+j));rw[<-dsFrom_succ] at hs;rw[Nat.zero_add] at hs;have hr:=dV_range t j;refine⟨(((j+1:Nat):Int),o - (((j+1:Nat):Int) - (lead (qBu t 0 (j+1))).length),lead (qBu t 0 (j+1))),?_,⟨j+1,rfl,by omega⟩,by simp only;omega,rfl⟩;simp only;rw[deT (by omega),cnT];refine(qAa (by omega) _).trans ?_;refine(qAa (by unfold qAc;have:=hr;unfold dV at this;omega) _).trans ?_;have e:(!decide ((bAt t (j:Int) - 48) % 256=0))=decide (dV t j≠0):=by rw[<-decide_not];rfl
  rw[e,bias_or,hs];by_cases hc:dV t j≠0\/0<(lead (qBu t 0 j)).length
  ·rw[deT hc,cnT,if_pos hc];refine(qAa (by simp only[List.length_singleton];omega) _).trans ?_;refine(qAa (by unfold qAc;omega) _).trans ?_;congr 3
   rw[List.length_append,List.length_singleton];congr 1
   omega
  ·rw[deF hc,cnF,if_neg hc];have:lead (qBu t 0 j)=[]:=by
    apply List.eq_nil_of_length_eq_zero;omega
   rw[this];refine(qAa (by unfold qAc;simp only[List.length_nil];omega) _).trans ?_;refine(qAa (by unfold qAc;omega) _).trans ?_;congr 3
   simp only[List.length_nil];congr 1
   omega
 ·right;simp only;rw[deF (by omega),cnF,show t.size=j by omega]
theorem p_ref6(l0:List Int)(hl:l0.length<4000000000):zbk_p6 l0=some (trail l0):=by
 unfold zbk_p6;rw[qDe (λl:List Int=>l.length<=l0.length/\trail l=trail l0) (λl=>l.length) (λ_=>trail l0) ?_ (x:=l0) ⟨by omega,rfl⟩];rintro l ⟨hle,ht⟩
 unfold zbk_p6_step;rcases List.eq_nil_or_concat l with rfl | ⟨m,d,rfl⟩
 ·right;refine(qAa (λh=>by simp at h) _).trans ?_;refine(qAa (λh=>by simp at h) _).trans ?_;refine(qAa (λh=>by simp at h) _).trans ?_;rw[<-ht];rfl
 ·rw[List.concat_eq_append] at hle ht ⊢;have hz:(m++[d]).length=m.length+1:=by simp
  rw[hz] at hle;have hN:Int.toNat (((m++[d]).length:Int) - 1)=m.length:=by rw[hz];omega
  have hg:(m++[d]).getD m.length (ET.dft .i64)=d:=by simp
  rw[hN,hg,hz];rw[deT (show(0:Int)<((m.length+1:Nat):Int) by omega)];by_cases hd:d=0
  ·left;subst hd;refine⟨m,?_,⟨by omega,by rw[<-ht,trail_snoc_zero]⟩,by omega,rfl⟩;refine(qAa (λ_=>by unfold qAc;omega) _).trans ?_;refine(qAa (λ_=>by omega) _).trans ?_;refine(qAa (λ_=>by omega) _).trans ?_;simp only[decide_true,Bool.and_true,cnT];refine(qAa (by unfold qAc;omega) _).trans ?_;refine(qAa (by omega) _).trans ?_;simp
  ·right;refine(qAa (λ_=>by unfold qAc;omega) _).trans ?_;refine(qAa (λ_=>by omega) _).trans ?_;refine(qAa (λ_=>by omega) _).trans ?_;rw[deF hd];simp only[Bool.and_false,cnF];rw[<-ht,trail_snoc m d hd]
def rnum(r:RNum):qH9:=⟨r.minus,r.digits,r.off,r.down,r.exp,r.plain,r.text⟩
section
variable (s:BA) (hsz:s.size<1000000000)
include hsz
theorem allS_size:(allS s).size<=s.size+s.size:=by
 unfold allS;split <;> simp <;> omega
theorem p_ref4(a:Nat)(o:Int)(ho : -4000000000<=o/\o<=4000000000):zbk_p4 s a (allS s) o=some (if decide (a=s.size)=true then(true,o - (((allS s).size:Int) - (lead (qBu (allS s) 0 (allS s).size)).length),(qC1 s).digits) else(false,o,[])):=by
 have hz:=allS_size s hsz;have hl:=lead_le (qBu (allS s) 0 (allS s).size);rw[dsFrom_length] at hl;unfold zbk_p4;have:(!decide ((a:Int)=(s.size:Int)))=!decide (a=s.size):=by congr 1;rw[decide_eq_decide];omega
 rw[this];cases hd:decide (a=s.size) with
 | false=>rfl
 | true =>
  simp only[Bool.not_true,cnF,if_true];rw[p_ref5 (allS s) (by omega) o ho,obS];simp only;rw[p_ref6 _ (by omega),obS];rfl
theorem p_ref1(hbd:badA s=false)(hdk:(dotS s && decide (atK s=atB s+1))=false):zbk_p1 s (atC s) (allS s) ((atB s:Int) - atA s) false (!dotS s)=some (qB1 s,(qBc s).off,(qBc s).down,(qBc s).plain,(qBc s).digits,(qBc s).exp):=by
 have hC:=atC_le s;have hA:=atA_le s;have hB:=atB_le s;have hAB:=atA_le_atB s;have hro:qB1 s=(!(expS s && decide (atF s=atE s)) && decide (atG s=s.size)):=by
  unfold qB1;rw[hbd,hdk];rfl
 have hexp:(decide ((atC s:Int)<(s.size:Int)) && (decide (bAt s (atC s)=101) || decide (bAt s (atC s)=69)))=expS s:=by
  unfold expS;by_cases h:atC s<s.size
  ·simp[h]
  ·have:bAt s (atC s) = -1:=qBl (by omega);simp[this]
 unfold zbk_p1;refine(qAa (λh=>by have:=of_decide_eq_true h;omega) _).trans ?_;refine(qAa (λ_ h=>by have:=of_decide_eq_true h;omega) _).trans ?_;rw[hexp];cases he:expS s with
 | false =>
  have hG:atG s=atC s:=by simp[atG,he]
  have h3:(expS s && decide (atF s=atE s))=false:=by simp[he]
  simp only[cnF];rw[p_ref4 s hsz (atC s) _ (by omega),obS,hro,h3,hG];cases hd:decide (atC s=s.size) with
  | false =>
   rw[readAll_4 hbd hdk h3 (by rw[hG];exact hd)];simp[qC1,he]
  | true =>
   have:qB1 s=true:=by rw[hro,h3,hG,hd];rfl
   rw[readAll_ok this];simp[qC1,he]
 | true =>
  have hCl:=atC_lt he;have hEl:=atE_le he;have hF:=atF_le he;have hsg:(decide ((atC s:Int)+1<(s.size:Int)) && (decide (bAt s ((atC s:Int)+1)=43) || decide (bAt s ((atC s:Int)+1)=45)))=sgnS s:=by
   unfold sgnS;by_cases h:(atC s:Int)+1<s.size
   ·simp[h]
   ·have:bAt s ((atC s:Int)+1) = -1:=qBl h;simp[this]
  have hG:atG s=atF s:=by simp[atG,he]
  have common:∀(dn:Bool),dn=decide (bAt s ((atC s:Int)+1)=45)->((zbk_p2 s (atE s)).bind λo83=>(Sum.elim (λ(o83_0:Bool × (List Int) × (List Int)) =>
    some (o83_0.1,((atB s:Int) - atA s),dn,false,o83_0.2.1,o83_0.2.2)) (λ(o83_1:Int × (List Int)) =>
    (zbk_p4 s o83_1.1 (allS s) ((atB s:Int) - atA s)).bind λo86 =>
    some (o86.1,o86.2.1,dn,false,o86.2.2,o83_1.2))) o83)=some (qB1 s,(qBc s).off,(qBc s).down,(qBc s).plain,(qBc s).digits,(qBc s).exp):=by
   intro dn hdn;subst hdn;rw[p_ref2 s hsz (atE s) hEl,obS];show(Sum.elim _ _ (if decide (atF s=atE s)=true then _ else _))=_;cases hd:decide (atF s=atE s) with
   | true =>
    have h3:(expS s && decide (atF s=atE s))=true:=by rw[he,hd];rfl
    rw[readAll_3 hbd hdk h3,hro,h3];simp[qC1,he]
   | false =>
    have h3:(expS s && decide (atF s=atE s))=false:=by rw[he,hd];rfl
    simp only[Bool.false_eq_true,if_false,Sum.elim_inr];show((zbk_p4 s (atF s:Int) _ _).bind _)=_;rw[p_ref4 s hsz (atF s) _ (by omega),obS,hro,h3,hG];cases hq:decide (atF s=s.size) with
    | false =>
     rw[readAll_4 hbd hdk h3 (by rw[hG];exact hq)];simp[qC1,he,atF]
    | true =>
     have:qB1 s=true:=by rw[hro,h3,hG,hq];rfl
     rw[readAll_ok this];simp[qC1,he,atF]
  simp only[cnT];refine(qAa (by unfold qAc;omega) _).trans ?_;refine(qAa (λh=>by have:=of_decide_eq_true h;omega) _).trans ?_;refine(qAa (λ_ h=>by have:=of_decide_eq_true h;omega) _).trans ?_;rw[hsg];cases hs:sgnS s with
  | true =>
   have hsl:=sgn_lt hs;have hE:(atC s:Int)+1+1=(atE s:Int):=by simp[atE,hs];omega
   simp only[cnT];refine(qAa (by omega) _).trans ?_;refine(qAa (by unfold qAc;omega) _).trans ?_;rw[hE];exact common _ rfl
  | false =>
   have hnd:¬bAt s ((atC s:Int)+1)=45:=λe=>by simp[sgnS,e] at hs
   have hE:(atC s:Int)+1=(atE s:Int):=by simp[atE,hs]
   simp only[cnF];have:=common false (by simp[hnd]);rw[<-hE] at this;exact this
theorem p_ref0:zbk_p0 s (atA s) 0 false true (⟨#[]⟩:BA)=some (qB1 s,(qBc s).off,(qBc s).down,(qBc s).plain,(qBc s).text,(qBc s).digits,(qBc s).exp):=by
 have hC:=atC_le s;have hA:=atA_le s;have hB:=atB_le s;have hAB:=atA_le_atB s;unfold zbk_p0;rw[p_many s (by omega) (atA s) hA,obS];show gd (decide ((atB s:Int)=(atA s:Int))=false->_) _=_;have e1:decide ((atB s:Int)=(atA s:Int))=decide (atB s=atA s):=by rw[decide_eq_decide];omega
 have e2:decide ((atA s:Int)+1<(atB s:Int))=decide (atA s+1<atB s):=by rw[decide_eq_decide];omega
 have hbad:(decide (atB s=atA s) || decide (bAt s (atA s)=48) && decide (atA s+1<atB s))=badA s:=rfl
 refine(qAa (λh=>by have:=of_decide_eq_false h;omega) _).trans ?_;refine(qAa (λ_ _=>by unfold qAc;omega) _).trans ?_;show(bif(decide ((atB s:Int)=(atA s:Int)) || decide (bAt s (atA s)=48) && decide ((atA s:Int)+1<(atB s:Int))) then _ else _)=_
 rw[e1,e2,hbad];cases hbd:badA s with
 | true =>
  have hro:qB1 s=false:=by simp[qB1,hbd]
  rw[readAll_1 hbd,hro];rfl
 | false =>
  simp only[cnF];show gd ((0:Int)<=(atA s:Int)/\(atA s:Int)<=(atB s:Int)/\(atB s:Int)<=(s.size:Int)) _=_;refine(qAa (by omega) _).trans ?_;refine(qAa (by show(0:Int)<=(atA s:Int)/\(atA s:Int)<=(atB s:Int)/\(atB s:Int)<=(s.size:Int);omega) _).trans ?_;refine(qAa (by show qAc ((atB s:Int) - atA s);unfold qAc;omega) _).trans ?_;refine(qAa (λh=>by have:=of_decide_eq_true h;show(0:Int)<=(atB s:Int)/\(atB s:Int)<(s.size:Int);exact⟨by omega,this⟩) _).trans ?_;show(bif decide ((atB s:Int)<(s.size:Int)) && decide (bAt s (atB s)=46) then _ else _)=_;have hdot:(decide ((atB s:Int)<(s.size:Int)) && decide (bAt s (atB s)=46))=dotS s:=by
   unfold dotS;by_cases h:atB s<s.size
   ·simp[h]
   ·have:bAt s (atB s) = -1:=qBl (by omega);simp[this]
  rw[hdot];cases hd:dotS s with
  | false =>
   have hc:atC s=atB s:=by simp[atC,hd]
   have ha:allS s=s.extract (atA s) (atB s):=by simp[allS,hd]
   have hdk:(dotS s && decide (atK s=atB s+1))=false:=by rw[hd];rfl
   have h1:=p_ref1 s hsz hbd hdk;rw[hc,ha,hd] at h1;simp only[cnF];show((zbk_p1 s (atB s:Int) (s.extract (Int.toNat (atA s:Int)) (Int.toNat (atB s:Int))) ((atB s:Int) - atA s) false true).bind _)=_;rw[Int.toNat_natCast,Int.toNat_natCast];have h1':zbk_p1 s (atB s:Int) (s.extract (atA s) (atB s)) ((atB s:Int) - atA s) false true=_:=h1;rw[h1',obS];have ht:(qBc s).text=s.extract (atA s) (atB s):=by
    unfold qBc;rw[hbd,hdk];simp only[Bool.false_eq_true,if_false];split
    ·rfl
    ·split <;> rfl
   rw[ht];rfl
  | true =>
   have hBl:=atB_lt hd;have hKl:=atK_le hd;have hKg:=atK_ge s;have hc:atC s=atK s:=by simp[atC,hd]
   have ha:allS s=s.extract (atA s) (atB s)++s.extract (atB s+1) (atK s):=by simp[allS,hd]
   simp only[cnT];show gd (qAc ((atB s:Int)+1)) _=_;refine(qAa (by unfold qAc;omega) _).trans ?_;show((zbn_s s ((atB s+1:Nat):Int)).bind _)=_;rw[p_many s (by omega) (atB s+1) (by omega),obS];refine(qAa (by show qAc ((atB s:Int)+1);unfold qAc;omega) _).trans ?_;show(bif decide ((atK s:Int)=(atB s:Int)+1) then _ else _)=_;have e3:decide ((atK s:Int)=(atB s:Int)+1)=decide (atK s=atB s+1):=by rw[decide_eq_decide];omega
   rw[e3];cases hk:decide (atK s=atB s+1) with
   | true =>
    have hdk:(dotS s && decide (atK s=atB s+1))=true:=by rw[hd,hk];rfl
    have hro:qB1 s=false:=by simp only[qB1,hbd,hdk,Bool.not_true,Bool.not_false,Bool.and_false,Bool.false_and]
    rw[readAll_2 hbd hdk,hro];rfl
   | false =>
    have hdk:(dotS s && decide (atK s=atB s+1))=false:=by rw[hd,hk];rfl
    have h1:=p_ref1 s hsz hbd hdk;rw[hc,ha,hd] at h1;simp only[cnF];refine(qAa (by show qAc ((atB s:Int)+1);unfold qAc;omega) _).trans ?_;refine(qAa (by show(0:Int)<=(atB s:Int)+1/\(atB s:Int)+1<=(atK s:Int)/\(atK s:Int)<=(s.size:Int);omega) _).trans ?_;have hx:(s.extract (atA s) (atB s)).size<=s.size:=by rw[ByteArray.size_extract];omega
    have hy:(s.extract (atB s+1) (atK s)).size<=s.size:=by rw[ByteArray.size_extract];omega
    show gd ((s.extract (Int.toNat (atA s:Int)) (Int.toNat (atB s:Int))).size+(s.extract (Int.toNat ((atB s+1:Nat):Int)) (Int.toNat (atK s:Int))).size<=9223372036854775807) ((zbk_p1 s (atK s:Int) (s.extract (Int.toNat (atA s:Int)) (Int.toNat (atB s:Int))++s.extract (Int.toNat ((atB s+1:Nat):Int)) (Int.toNat (atK s:Int))) ((atB s:Int) - atA s) false false).bind _)=_;rw[Int.toNat_natCast,Int.toNat_natCast,Int.toNat_natCast,Int.toNat_natCast];refine(qAa (by omega) _).trans ?_;have h1':zbk_p1 s (atK s:Int) (s.extract (atA s) (atB s)++s.extract (atB s+1) (atK s)) ((atB s:Int) - atA s) false false=_:=h1;rw[h1',obS];have ht:(qBc s).text=s.extract (atA s) (atB s):=by
     unfold qBc;rw[hbd,hdk];simp only[Bool.false_eq_true,if_false];split
     ·rfl
     ·split <;> rfl
    rw[ht];rfl
theorem p_Read:zbk_s s=some (rnum (qBc s),qB1 s):=by
 have hm:(qBc s).minus=decide (bAt s 0=45):=by
  unfold qBc;split
  ·rfl
  ·split
   ·rfl
   ·split
    ·rfl
    ·split <;> rfl
 have h0:=p_ref0 s hsz;unfold zbk_s;refine(qAa (λh=>by have:=of_decide_eq_true h;omega) _).trans ?_;have e:(decide ((0:Int)<(s.size:Int)) && decide (bAt s 0=45))=decide (bAt s 0=45):=by
  by_cases h:0<s.size
  ·simp[h]
  ·have:bAt s 0 = -1:=qBl (by omega);simp[this]
 rw[e];by_cases h:bAt s 0=45
 ·have ha:atA s=1:=by simp[atA,h]
  rw[ha] at h0;rw[deT h,cnT];refine(qAa (by unfold qAc;omega) _).trans ?_;have h0':zbk_p0 s ((0:Int)+1) 0 false true (⟨#[]⟩:BA)=_:=h0;rw[h0',obS];unfold rnum;rw[hm,deT h]
 ·have ha:atA s=0:=by simp[atA,h]
  rw[ha] at h0;rw[deF h,cnF];have h0':zbk_p0 s (0:Int) 0 false true (⟨#[]⟩:BA)=_:=h0;rw[h0',obS];unfold rnum;rw[hm,deF h]
end
end Go.Proofs.YtbokbmjcodoccabDoor
