/-
  Functions as the engine reads them (printed by gen.py).
-/
import Derived.Test.YtpobbbpphnnnhaaGreatDoorEngO
import Derived.Test.YtpobbbpphnnnhaaGreatDoorProg
namespace Go.Proofs.YtpobbbpphnnnhaaGreatDoor
open Go.Eng
set_option linter.unusedVariables false
set_option linter.unusedSimpArgs false
set_option maxRecDepth 100000
noncomputable section
structure decimal_number where
 minus:Bool
 whole:BA
 digits:BA
 point:Int
 plain:Bool
 down:Bool
 exp_:BA
structure qH5 where
 minus:Bool
 digits:(List Int)
 off:Int
 down:Bool
 exp_:(List Int)
 plain:Bool
 text:BA
def zae_q:IQ:=(.seq (rg 4 [oP 4 (.mv vF)]) (.seq (rg 4 [oM 5 t0,oP 6 (.lenS t5),oM 7 t1,oP 8 (.lenS t7),oP 9 (.bi .geq t6 t8),oM 10 t9,oF 11 (.mv t0) 10,oF 12 (.mv t1) 10,oF 13 (.lenS t12) 10,oF 14 (.sub none t11 none (some t13)) 10,oF 15 (.mv t1) 10,oF 16 (.bi .eql t14 t15) 10,oP 17 (.pick t10 t16 vF),oM 4 t17]) (.cn [4] .ret)))
def zae_s (s prefix_:BA):Option Bool :=
 gd ((decide ((prefix_.size:Int)≤(s.size:Int)))=true→0≤(0:Int)∧(0:Int)≤(prefix_.size:Int)∧(prefix_.size:Int)≤s.size) <|
 some ((decide ((prefix_.size:Int)≤(s.size:Int))) && (decide ((s.extract 0 (Int.toNat (prefix_.size:Int)))=prefix_)))
def zae_c:CS:=mkC (qAa (dVC (dCO dS)) (qAa (dVC (dCO dS)) dNil)) dNil (fun x y=>zae_s x.1 x.2.1) (fun x y r=>.c (.o (.vB r))) fun x y r=>[]
theorem zae_val:qAj Tryz.prog 51 zae_c:=vl0 zae_q [.tmp 4] 18 5 0 [] trivial fun x y=>by
 simp only [zae_s,-eq_self,qAc,qAe,obA,obS,slL,slR,qAd];kernel_rfl
def zae_w:CQ:=qCl [] zae_c
theorem zae_ok:qAg Tryz.prog 51 zae_w:=qAn zae_val
def zad_q:IQ:=(.seq (rg 5 [oP 4 (.mv (.v (.string ⟨#[]⟩))),oP 5 (.mv vF)]) (.seq (.seq (rg 9 [oM 6 t0,oM 7 t1,oP 8 (.call 51 [t6,t7]),oP 9 (.un .not t8)]) (.cond t9 (.seq (rg 5 [oM 10 t0,oM 4 t10,oP 5 (.mv vF)]) (.cn [4,5] .ret)) .skip)) (.seq (rg 5 [oM 11 t0,oM 12 t1,oP 13 (.lenS t12),oP 14 (.sub none t11 (some t13) none),oM 4 t14,oP 5 (.mv vT)]) (.cn [4,5] .ret))))
def zad_s (s prefix_:BA):Option (BA × Bool) :=
 (zae_s s prefix_).bind fun r1 =>
 bif (!r1) then (
  some (s,false))
 else (
  gd (0≤(prefix_.size:Int)∧(prefix_.size:Int)≤(s.size:Int)∧(s.size:Int)≤s.size) <|
  some ((s.extract (Int.toNat (prefix_.size:Int)) s.size),true))
def zad_c:CS:=mkC (qAa (dVC (dCO dS)) (qAa (dVC (dCO dS)) dNil)) dNil (fun x y=>zad_s x.1 x.2.1) (fun x y r=>.tup [.o (.vS r.1),.o (.vB r.2)]) fun x y r=>[]
theorem zad_val:qAj Tryz.prog 75 zad_c:=vl0 zad_q [.tmp 4,.tmp 5] 15 6 0 [(51,zae_w)] ⟨zae_ok,tV⟩ fun x y=>by
 simp only [zad_s,-eq_self,qAc,qAe,obA,obS,slL,slR,qAd];kernel_rfl
def zad_w:CQ:=qCl [] zad_c
theorem zad_ok:qAg Tryz.prog 75 zad_w:=qAn zad_val
def zdk_q:IQ:=(.seq (rg 5 [oP 4 (.mv (.v (.string ⟨#[]⟩))),oP 5 (.mv vF)]) (.seq (rg 5 [oM 6 t0,oM 7 t1,oP 8 (.call 75 [t6,t7]),oP 9 (.extract t8 0),oP 10 (.extract t8 1),oM 4 t9,oM 5 t10]) (.cn [4,5] .ret)))
def zdk_s (s prefix_:BA):Option (BA × Bool) :=
 (zad_s s prefix_).bind fun r1 =>
 some (r1.1,r1.2)
def zdk_c:CS:=mkC (qAa (dVC (dCO dS)) (qAa (dVC (dCO dS)) dNil)) dNil (fun x y=>zdk_s x.1 x.2.1) (fun x y r=>.tup [.o (.vS r.1),.o (.vB r.2)]) fun x y r=>[]
theorem zdk_val:qAj Tryz.prog 61 zdk_c:=vl0 zdk_q [.tmp 4,.tmp 5] 11 6 0 [(75,zad_w)] ⟨zad_ok,tV⟩ fun x y=>by
 simp only [zdk_s,-eq_self,qAc,qAe,obA,obS,slL,slR,qAd];kernel_rfl
def zdk_w:CQ:=qCl [] zdk_c
theorem zdk_ok:qAg Tryz.prog 61 zdk_w:=qAn zdk_val
def zac_b0:IQ:=(.loop [0,3] (.seq (.seq (rg 19 [oM 4 t3,oM 5 t0,oP 6 (.lenS t5),oP 7 (.bi .lss t4 t6),oM 8 t7,oF 9 (.mv t0) 8,oF 10 (.mv t3) 8,oF 11 (.index t9 t10) 8,oF 12 (.bi .geq t11 (vC 48)) 8,oP 13 (.pick t8 t12 vF),oM 14 t13,oF 15 (.mv t0) 14,oF 16 (.mv t3) 14,oF 17 (.index t15 t16) 14,oF 18 (.bi .leq t17 (vC 57)) 14,oP 19 (.pick t14 t18 vF)]) (.cond t19 .skip (.cn [3] (.exit 0)))) (.block 1 (rg 3 [oM 20 t3,oP 21 (.bi .add t20 (vI 1)),oM 3 t21]))))
def zac_q:IQ:=(.seq (rg 2 [oP 2 (.mv (vI 0))]) (.seq (rg 3 [oP 3 (.mv (vI 0))]) (.seq (.block 0 (.cn [0,3] (.sub 0 zac_b0))) (.seq (rg 2 [oM 22 t3,oM 2 t22]) (.cn [2] .ret)))))
def zac_p0_step (s:BA) (n:Int):Option (Int ⊕ Int) :=
 gd ((decide (n<(s.size:Int)))=true→0≤n∧n<s.size) <|
 gd (((decide (n<(s.size:Int))) && (decide ((48:Int)≤(bAt s n))))=true→0≤n∧n<s.size) <|
 bif (((decide (n<(s.size:Int))) && (decide ((48:Int)≤(bAt s n)))) && (decide ((bAt s n)≤(57:Int)))) then (
  gd (qAf (n+(1:Int))) <|
  some (.inl (n+(1:Int))))
 else (
  some (.inr n))
def zac_p0 (s:BA) (n:Int):Option Int :=
 qAw (fun x:Int=>zac_p0_step s x) n
def zac_s (s:BA):Option Int :=
 (zac_p0 s (0:Int)).bind fun o1 =>
 some o1
def zac_G:Nat→Option CQ:=tblQ []
def zac_d0:=(dQS (qAa (dSO 0 dS) (qAa (dSO 3 dZ) dNil)) dNil)
def zac_l0:SubQ:=mkL zac_d0 (fun x=>zac_p0 x.1.1 x.1.2.1) fun x r R kn kx kr=>kx 0 ⟨[sL 3 (.vI r)],[],[]⟩
def zac_L:Nat→SubQ:=tblL [(0,zac_l0)]
theorem zac_sub0:qA0 zac_L zac_G 0 4 23 0 zac_b0:=qAp (show zac_L 0=zac_l0 from by kernel_rfl) fun x R kn kx kr=>qAm (step:=fun y=>zac_p0_step x.1.1 y) (enc:=fun (y:Int)=>zac_d0.e ((x.1.1,y,x.1.2.2),x.2)) (fun y=>by kernel_rfl) (fun y ki=>by simp only [zac_p0_step,-eq_self,qAc,qAe,obA,obS,slL,slR,qAd]; kernel_rfl) x.1.2.1
def zac_c:CS:=mkC (qAa (dVC (dCO dS)) dNil) dNil (fun x y=>zac_s x.1) (fun x y r=>.c (.o (.vI r))) fun x y r=>[]
theorem zac_val:qAj Tryz.prog 62 zac_c:=vl1 zac_q [.tmp 2] 23 4 0 (show qAu zac_L zac_G 0 4 23 [(0,zac_b0)] from ⟨zac_sub0,tV⟩) (fun f C h=>by cases h) fun x y=>by
 simp only [zac_s,-eq_self,qAc,qAe,obA,obS,slL,slR,qAd];kernel_rfl
def zac_w:CQ:=qCl [] zac_c
theorem zac_ok:qAg Tryz.prog 62 zac_w:=qAn zac_val
def zdp_b0:IQ:=(.loop [0,1] (.seq (.seq (rg 13 [oM 5 t0,oP 6 (.lenS t5),oP 7 (.bi .gtr t6 (vI 0)),oM 8 t7,oF 9 (.mv t0) 8,oF 10 (.index t9 (vI 0)) 8,oF 11 (.mv t1) 8,oF 12 (.bi .eql t10 t11) 8,oP 13 (.pick t8 t12 vF)]) (.cond t13 .skip (.cn [0] (.exit 0)))) (.block 1 (rg 0 [oM 14 t0,oP 15 (.sub none t14 (some (vI 1)) none),oM 0 t15]))))
def zdp_q:IQ:=(.seq (rg 4 [oP 4 (.mv (.v (.string ⟨#[]⟩)))]) (.seq (.block 0 (.cn [0,1] (.sub 0 zdp_b0))) (.seq (rg 4 [oM 16 t0,oM 4 t16]) (.cn [4] .ret))))
def zdp_p0_step (s:BA) (c:Int):Option (BA ⊕ BA) :=
 gd ((decide ((0:Int)<(s.size:Int)))=true→0≤(0:Int)∧(0:Int)<s.size) <|
 bif ((decide ((0:Int)<(s.size:Int))) && (decide ((bAt s (0:Int))=c))) then (
  gd (0≤(1:Int)∧(1:Int)≤(s.size:Int)∧(s.size:Int)≤s.size) <|
  some (.inl (s.extract 1 s.size)))
 else (
  some (.inr s))
def zdp_p0 (s:BA) (c:Int):Option BA :=
 qAw (fun x:BA=>zdp_p0_step x c) s
def zdp_s (s:BA) (c:Int):Option BA :=
 (zdp_p0 s c).bind fun o1 =>
 some o1
def zdp_G:Nat→Option CQ:=tblQ []
def zdp_d0:=(dQS (qAa (dSO 0 dS) (qAa (dSO 1 (dI .u8)) dNil)) dNil)
def zdp_l0:SubQ:=mkL zdp_d0 (fun x=>zdp_p0 x.1.1 x.1.2.1) fun x r R kn kx kr=>kx 0 ⟨[sL 0 (.vS r)],[],[]⟩
def zdp_L:Nat→SubQ:=tblL [(0,zdp_l0)]
theorem zdp_sub0:qA0 zdp_L zdp_G 0 5 17 0 zdp_b0:=qAp (show zdp_L 0=zdp_l0 from by kernel_rfl) fun x R kn kx kr=>qAm (step:=fun y=>zdp_p0_step y x.1.2.1) (enc:=fun (y:BA)=>zdp_d0.e ((y,x.1.2),x.2)) (fun y=>by kernel_rfl) (fun y ki=>by simp only [zdp_p0_step,-eq_self,qAc,qAe,obA,obS,slL,slR,qAd]; kernel_rfl) x.1.1
def zdp_c:CS:=mkC (qAa (dVC (dCO dS)) (qAa (dVC (dCO (dI .u8))) dNil)) dNil (fun x y=>zdp_s x.1 x.2.1) (fun x y r=>.c (.o (.vS r))) fun x y r=>[]
theorem zdp_val:qAj Tryz.prog 76 zdp_c:=vl1 zdp_q [.tmp 4] 17 5 0 (show qAu zdp_L zdp_G 0 5 17 [(0,zdp_b0)] from ⟨zdp_sub0,tV⟩) (fun f C h=>by cases h) fun x y=>by
 simp only [zdp_s,-eq_self,qAc,qAe,obA,obS,slL,slR,qAd];kernel_rfl
def zdp_w:CQ:=qCl [] zdp_c
theorem zdp_ok:qAg Tryz.prog 76 zdp_w:=qAn zdp_val
def zdn_q:IQ:=(.seq (rg 4 [oP 4 (.mv (.v (.string ⟨#[]⟩)))]) (.seq (.seq (rg 12 [oM 7 t0,oP 8 (.bi .eql t7 (.v (.string ⟨#[]⟩))),oM 9 t8,oE 10 (.mv t1) 9,oE 11 (.bi .eql t10 (.v (.string ⟨#[]⟩))) 9,oP 12 (.pick t9 vT t11)]) (.cond t12 (.seq (rg 4 [oM 13 t0,oM 4 t13]) (.cn [4] .ret)) .skip)) (.seq (.seq (rg 21 [oM 14 t1,oP 15 (.lenS t14),oP 16 (.bi .eql t15 (vI 1)),oM 17 t16,oF 18 (.mv t1) 17,oF 19 (.index t18 (vI 0)) 17,oF 20 (.bi .lss t19 (vC 128)) 17,oP 21 (.pick t17 t20 vF)]) (.cond t21 (.seq (rg 4 [oM 22 t0,oM 23 t1,oP 24 (.index t23 (vI 0)),oP 25 (.call 76 [t22,t24]),oM 4 t25]) (.cn [4] .ret)) .skip)) (.seq (.seq (rg 6 [oM 27 t1,oP 28 (.call 77 [t27]),oM 26 t28,oP 29 (.extract t26 0),oP 30 (.extract t26 1),oP 5 (.alloc 91 [.bool false,.bool false,.bool false,.bool false,.bool false,.bool false,.bool false,.bool false,.bool false,.bool false,.bool false,.bool false,.bool false,.bool false,.bool false,.bool false,.bool false,.bool false,.bool false,.bool false,.bool false,.bool false,.bool false,.bool false,.bool false,.bool false,.bool false,.bool false,.bool false,.bool false,.bool false,.bool false,.bool false,.bool false,.bool false,.bool false,.bool false,.bool false,.bool false,.bool false,.bool false,.bool false,.bool false,.bool false,.bool false,.bool false,.bool false,.bool false,.bool false,.bool false,.bool false,.bool false,.bool false,.bool false,.bool false,.bool false,.bool false,.bool false,.bool false,.bool false,.bool false,.bool false,.bool false,.bool false,.bool false,.bool false,.bool false,.bool false,.bool false,.bool false,.bool false,.bool false,.bool false,.bool false,.bool false,.bool false,.bool false,.bool false,.bool false,.bool false,.bool false,.bool false,.bool false,.bool false,.bool false,.bool false,.bool false,.bool false,.bool false,.bool false,.bool false,.bool false,.bool false,.bool false,.bool false,.bool false,.bool false,.bool false,.bool false,.bool false,.bool false,.bool false,.bool false,.bool false,.bool false,.bool false,.bool false,.bool false,.bool false,.bool false,.bool false,.bool false,.bool false,.bool false,.bool false,.bool false,.bool false,.bool false,.bool false,.bool false,.bool false,.bool false,.bool false,.bool false,.bool false,.bool false,.bool false,.bool false,.bool false,.bool false,.bool false,.bool false,.bool false,.bool false,.bool false,.bool false,.bool false,.bool false,.bool false,.bool false,.bool false,.bool false,.bool false,.bool false,.bool false,.bool false,.bool false,.bool false,.bool false,.bool false,.bool false,.bool false,.bool false,.bool false,.bool false,.bool false,.bool false,.bool false,.bool false,.bool false,.bool false,.bool false,.bool false,.bool false,.bool false,.bool false,.bool false,.bool false,.bool false,.bool false,.bool false,.bool false,.bool false,.bool false,.bool false,.bool false,.bool false,.bool false,.bool false,.bool false,.bool false,.bool false,.bool false,.bool false,.bool false,.bool false,.bool false,.bool false,.bool false,.bool false,.bool false,.bool false,.bool false,.bool false,.bool false,.bool false,.bool false,.bool false,.bool false,.bool false,.bool false,.bool false,.bool false,.bool false,.bool false,.bool false,.bool false,.bool false,.bool false,.bool false,.bool false,.bool false,.bool false,.bool false,.bool false,.bool false,.bool false,.bool false,.bool false,.bool false,.bool false,.bool false,.bool false,.bool false,.bool false,.bool false,.bool false,.bool false,.bool false,.bool false,.bool false,.bool false,.bool false,.bool false,.bool false,.bool false,.bool false,.bool false,.bool false,.bool false,.bool false,.bool false,.bool false,.bool false,.bool false,.bool false,.bool false,.bool false,.bool false,.bool false,.bool false,.bool false,.bool false,.bool false,.bool false,.bool false]),oN (.store 256 t5 t29),oM 6 t30]) (.seq (rg 31 [oM 31 t6]) (.cond t31 (.seq (rg 4 [oM 32 t0,oP 33 (.call 78 [t32,t5]),oM 4 t33]) (.cn [4] .ret)) .skip))) (.seq (rg 4 [oM 34 t0,oM 35 t1,oP 36 (.call 79 [t34,t35]),oM 4 t36]) (.cn [4] .ret))))))
def zdn_s (s cutset:BA):Option BA :=
 bif ((decide (s=(⟨#[]⟩:BA))) || (decide (cutset=(⟨#[]⟩:BA)))) then (
  some s)
 else (
  gd ((decide ((cutset.size:Int)=(1:Int)))=true→0≤(0:Int)∧(0:Int)<cutset.size) <|
  bif ((decide ((cutset.size:Int)=(1:Int))) && (decide ((bAt cutset (0:Int))<(128:Int)))) then (
   gd (0≤(0:Int)∧(0:Int)<cutset.size) <|
   (zdp_s s (bAt cutset (0:Int))).bind fun r1 =>
   some r1)
  else (
   none))
def zdn_c:CS:=mkC (qAa (dVC (dCO dS)) (qAa (dVC (dCO dS)) dNil)) dNil (fun x y=>zdn_s x.1 x.2.1) (fun x y r=>.c (.o (.vS r))) fun x y r=>[]
theorem zdn_val:qAj Tryz.prog 63 zdn_c:=vl0 zdn_q [.tmp 4] 37 7 0 [(76,zdp_w)] ⟨zdp_ok,tV⟩ fun x y=>by
 simp only [zdn_s,-eq_self,qAc,qAe,obA,obS,slL,slR,qAd];kernel_rfl
def zdn_w:CQ:=qCl [] zdn_c
theorem zdn_ok:qAg Tryz.prog 63 zdn_w:=qAn zdn_val
def zdq_b0:IQ:=(.loop [0,1] (.seq (.seq (rg 16 [oM 5 t0,oP 6 (.lenS t5),oP 7 (.bi .gtr t6 (vI 0)),oM 8 t7,oF 9 (.mv t0) 8,oF 10 (.mv t0) 8,oF 11 (.lenS t10) 8,oF 12 (.bi .sub t11 (vI 1)) 8,oF 13 (.index t9 t12) 8,oF 14 (.mv t1) 8,oF 15 (.bi .eql t13 t14) 8,oP 16 (.pick t8 t15 vF)]) (.cond t16 .skip (.cn [0] (.exit 0)))) (.block 1 (rg 0 [oM 17 t0,oM 18 t0,oP 19 (.lenS t18),oP 20 (.bi .sub t19 (vI 1)),oP 21 (.sub none t17 none (some t20)),oM 0 t21]))))
def zdq_q:IQ:=(.seq (rg 4 [oP 4 (.mv (.v (.string ⟨#[]⟩)))]) (.seq (.block 0 (.cn [0,1] (.sub 0 zdq_b0))) (.seq (rg 4 [oM 22 t0,oM 4 t22]) (.cn [4] .ret))))
def zdq_p0_step (s:BA) (c:Int):Option (BA ⊕ BA) :=
 gd ((decide ((0:Int)<(s.size:Int)))=true→qAf ((s.size:Int) - (1:Int))) <|
 gd ((decide ((0:Int)<(s.size:Int)))=true→0≤((s.size:Int) - (1:Int))∧((s.size:Int) - (1:Int))<s.size) <|
 bif ((decide ((0:Int)<(s.size:Int))) && (decide ((bAt s ((s.size:Int) - (1:Int)))=c))) then (
  gd (qAf ((s.size:Int) - (1:Int))) <|
  gd (0≤(0:Int)∧(0:Int)≤((s.size:Int) - (1:Int))∧((s.size:Int) - (1:Int))≤s.size) <|
  some (.inl (s.extract 0 (Int.toNat ((s.size:Int) - (1:Int))))))
 else (
  some (.inr s))
def zdq_p0 (s:BA) (c:Int):Option BA :=
 qAw (fun x:BA=>zdq_p0_step x c) s
def zdq_s (s:BA) (c:Int):Option BA :=
 (zdq_p0 s c).bind fun o1 =>
 some o1
def zdq_G:Nat→Option CQ:=tblQ []
def zdq_d0:=(dQS (qAa (dSO 0 dS) (qAa (dSO 1 (dI .u8)) dNil)) dNil)
def zdq_l0:SubQ:=mkL zdq_d0 (fun x=>zdq_p0 x.1.1 x.1.2.1) fun x r R kn kx kr=>kx 0 ⟨[sL 0 (.vS r)],[],[]⟩
def zdq_L:Nat→SubQ:=tblL [(0,zdq_l0)]
theorem zdq_sub0:qA0 zdq_L zdq_G 0 5 23 0 zdq_b0:=qAp (show zdq_L 0=zdq_l0 from by kernel_rfl) fun x R kn kx kr=>qAm (step:=fun y=>zdq_p0_step y x.1.2.1) (enc:=fun (y:BA)=>zdq_d0.e ((y,x.1.2),x.2)) (fun y=>by kernel_rfl) (fun y ki=>by simp only [zdq_p0_step,-eq_self,qAc,qAe,obA,obS,slL,slR,qAd]; kernel_rfl) x.1.1
def zdq_c:CS:=mkC (qAa (dVC (dCO dS)) (qAa (dVC (dCO (dI .u8))) dNil)) dNil (fun x y=>zdq_s x.1 x.2.1) (fun x y r=>.c (.o (.vS r))) fun x y r=>[]
theorem zdq_val:qAj Tryz.prog 80 zdq_c:=vl1 zdq_q [.tmp 4] 23 5 0 (show qAu zdq_L zdq_G 0 5 23 [(0,zdq_b0)] from ⟨zdq_sub0,tV⟩) (fun f C h=>by cases h) fun x y=>by
 simp only [zdq_s,-eq_self,qAc,qAe,obA,obS,slL,slR,qAd];kernel_rfl
def zdq_w:CQ:=qCl [] zdq_c
theorem zdq_ok:qAg Tryz.prog 80 zdq_w:=qAn zdq_val
def zdo_q:IQ:=(.seq (rg 4 [oP 4 (.mv (.v (.string ⟨#[]⟩)))]) (.seq (.seq (rg 12 [oM 7 t0,oP 8 (.bi .eql t7 (.v (.string ⟨#[]⟩))),oM 9 t8,oE 10 (.mv t1) 9,oE 11 (.bi .eql t10 (.v (.string ⟨#[]⟩))) 9,oP 12 (.pick t9 vT t11)]) (.cond t12 (.seq (rg 4 [oM 13 t0,oM 4 t13]) (.cn [4] .ret)) .skip)) (.seq (.seq (rg 21 [oM 14 t1,oP 15 (.lenS t14),oP 16 (.bi .eql t15 (vI 1)),oM 17 t16,oF 18 (.mv t1) 17,oF 19 (.index t18 (vI 0)) 17,oF 20 (.bi .lss t19 (vC 128)) 17,oP 21 (.pick t17 t20 vF)]) (.cond t21 (.seq (rg 4 [oM 22 t0,oM 23 t1,oP 24 (.index t23 (vI 0)),oP 25 (.call 80 [t22,t24]),oM 4 t25]) (.cn [4] .ret)) .skip)) (.seq (.seq (rg 6 [oM 27 t1,oP 28 (.call 77 [t27]),oM 26 t28,oP 29 (.extract t26 0),oP 30 (.extract t26 1),oP 5 (.alloc 91 [.bool false,.bool false,.bool false,.bool false,.bool false,.bool false,.bool false,.bool false,.bool false,.bool false,.bool false,.bool false,.bool false,.bool false,.bool false,.bool false,.bool false,.bool false,.bool false,.bool false,.bool false,.bool false,.bool false,.bool false,.bool false,.bool false,.bool false,.bool false,.bool false,.bool false,.bool false,.bool false,.bool false,.bool false,.bool false,.bool false,.bool false,.bool false,.bool false,.bool false,.bool false,.bool false,.bool false,.bool false,.bool false,.bool false,.bool false,.bool false,.bool false,.bool false,.bool false,.bool false,.bool false,.bool false,.bool false,.bool false,.bool false,.bool false,.bool false,.bool false,.bool false,.bool false,.bool false,.bool false,.bool false,.bool false,.bool false,.bool false,.bool false,.bool false,.bool false,.bool false,.bool false,.bool false,.bool false,.bool false,.bool false,.bool false,.bool false,.bool false,.bool false,.bool false,.bool false,.bool false,.bool false,.bool false,.bool false,.bool false,.bool false,.bool false,.bool false,.bool false,.bool false,.bool false,.bool false,.bool false,.bool false,.bool false,.bool false,.bool false,.bool false,.bool false,.bool false,.bool false,.bool false,.bool false,.bool false,.bool false,.bool false,.bool false,.bool false,.bool false,.bool false,.bool false,.bool false,.bool false,.bool false,.bool false,.bool false,.bool false,.bool false,.bool false,.bool false,.bool false,.bool false,.bool false,.bool false,.bool false,.bool false,.bool false,.bool false,.bool false,.bool false,.bool false,.bool false,.bool false,.bool false,.bool false,.bool false,.bool false,.bool false,.bool false,.bool false,.bool false,.bool false,.bool false,.bool false,.bool false,.bool false,.bool false,.bool false,.bool false,.bool false,.bool false,.bool false,.bool false,.bool false,.bool false,.bool false,.bool false,.bool false,.bool false,.bool false,.bool false,.bool false,.bool false,.bool false,.bool false,.bool false,.bool false,.bool false,.bool false,.bool false,.bool false,.bool false,.bool false,.bool false,.bool false,.bool false,.bool false,.bool false,.bool false,.bool false,.bool false,.bool false,.bool false,.bool false,.bool false,.bool false,.bool false,.bool false,.bool false,.bool false,.bool false,.bool false,.bool false,.bool false,.bool false,.bool false,.bool false,.bool false,.bool false,.bool false,.bool false,.bool false,.bool false,.bool false,.bool false,.bool false,.bool false,.bool false,.bool false,.bool false,.bool false,.bool false,.bool false,.bool false,.bool false,.bool false,.bool false,.bool false,.bool false,.bool false,.bool false,.bool false,.bool false,.bool false,.bool false,.bool false,.bool false,.bool false,.bool false,.bool false,.bool false,.bool false,.bool false,.bool false,.bool false,.bool false,.bool false,.bool false,.bool false,.bool false,.bool false,.bool false,.bool false,.bool false,.bool false,.bool false,.bool false,.bool false,.bool false,.bool false,.bool false,.bool false,.bool false]),oN (.store 256 t5 t29),oM 6 t30]) (.seq (rg 31 [oM 31 t6]) (.cond t31 (.seq (rg 4 [oM 32 t0,oP 33 (.call 81 [t32,t5]),oM 4 t33]) (.cn [4] .ret)) .skip))) (.seq (rg 4 [oM 34 t0,oM 35 t1,oP 36 (.call 82 [t34,t35]),oM 4 t36]) (.cn [4] .ret))))))
def zdo_s (s cutset:BA):Option BA :=
 bif ((decide (s=(⟨#[]⟩:BA))) || (decide (cutset=(⟨#[]⟩:BA)))) then (
  some s)
 else (
  gd ((decide ((cutset.size:Int)=(1:Int)))=true→0≤(0:Int)∧(0:Int)<cutset.size) <|
  bif ((decide ((cutset.size:Int)=(1:Int))) && (decide ((bAt cutset (0:Int))<(128:Int)))) then (
   gd (0≤(0:Int)∧(0:Int)<cutset.size) <|
   (zdq_s s (bAt cutset (0:Int))).bind fun r1 =>
   some r1)
  else (
   none))
def zdo_c:CS:=mkC (qAa (dVC (dCO dS)) (qAa (dVC (dCO dS)) dNil)) dNil (fun x y=>zdo_s x.1 x.2.1) (fun x y r=>.c (.o (.vS r))) fun x y r=>[]
theorem zdo_val:qAj Tryz.prog 64 zdo_c:=vl0 zdo_q [.tmp 4] 37 7 0 [(80,zdq_w)] ⟨zdq_ok,tV⟩ fun x y=>by
 simp only [zdo_s,-eq_self,qAc,qAe,obA,obS,slL,slR,qAd];kernel_rfl
def zdo_w:CQ:=qCl [] zdo_c
theorem zdo_ok:qAg Tryz.prog 64 zdo_w:=qAn zdo_val
def zab_b0:IQ:=(.join [] [0,4,6,7] (.seq (rg 8 [oM 29 t0,oP 30 (.call 62 [t29]),oM 8 t30]) (.seq (.seq (rg 41 [oM 31 t8,oP 32 (.bi .eql t31 (vI 0)),oM 33 t32,oE 34 (.mv t8) 33,oE 35 (.bi .gtr t34 (vI 1)) 33,oE 36 (.mv t35) 33,oF 37 (.mv t0) 36,oF 38 (.index t37 (vI 0)) 36,oF 39 (.bi .eql t38 (vC 48)) 36,oE 40 (.pick t36 t39 vF) 33,oP 41 (.pick t33 vT t40)]) (.cond t41 (.seq (rg 5 [oP 42 (.load (some 7) t6),oN (.store 7 t4 t42),oP 5 (.mv vF)]) (.cn [4,5] .ret)) .skip)) (.reg 0 (some [0,1,2,3,4,5,6,7,8]) [oM 43 t0,oM 44 t8,oP 45 (.sub none t43 none (some t44)),oM 46 t0,oM 47 t8,oP 48 (.sub none t46 (some t47) none),oP 49 (.faddr 1 t6),oN (.store 1 t49 t45),oM 0 t48]))))
def zab_b1:IQ:=(.join [] [0,4,6,7] (.seq (rg 10 [oM 51 t0,oP 52 (.call 61 [t51,(.v (.string ⟨#[46]⟩))]),oM 50 t52,oP 53 (.extract t50 0),oP 54 (.extract t50 1),oM 9 t53,oM 10 t54]) (.seq (rg 55 [oM 55 t10]) (.cond t55 (.seq (rg 11 [oM 56 t9,oP 57 (.call 62 [t56]),oM 11 t57]) (.seq (.seq (rg 59 [oM 58 t11,oP 59 (.bi .eql t58 (vI 0))]) (.cond t59 (.seq (rg 5 [oP 60 (.load (some 7) t6),oN (.store 7 t4 t60),oP 5 (.mv vF)]) (.cn [4,5] .ret)) .skip)) (.reg 0 (some [0,1,2,3,4,5,6,7,8,9]) [oM 61 t9,oM 62 t11,oP 63 (.sub none t61 none (some t62)),oM 64 t9,oM 65 t11,oP 66 (.sub none t64 (some t65) none),oP 67 (.faddr 4 t6),oN (.store 1 t67 vF),oM 7 t63,oM 0 t66]))) .skip))))
def zab_b3:IQ:=(.join [] [0,4,6,7] (.seq (.seq (rg 104 [oM 96 t0,oP 97 (.bi .eql t96 (.v (.string ⟨#[]⟩))),oM 98 t97,oE 99 (.mv t0) 98,oE 100 (.call 62 [t99]) 98,oE 101 (.mv t0) 98,oE 102 (.lenS t101) 98,oE 103 (.bi .neq t100 t102) 98,oP 104 (.pick t98 vT t103)]) (.cond t104 (.seq (rg 5 [oP 105 (.load (some 7) t6),oN (.store 7 t4 t105),oP 5 (.mv vF)]) (.cn [4,5] .ret)) .skip)) (rg 0 [oM 106 t0,oP 107 (.call 63 [t106,(.v (.string ⟨#[48]⟩))]),oP 108 (.faddr 4 t6),oN (.store 1 t108 vF),oP 109 (.faddr 6 t6),oN (.store 1 t109 t107),oP 0 (.mv (.v (.string ⟨#[]⟩)))])))
def zab_b2:IQ:=(.seq (.seq (rg 75 [oM 68 t0,oP 69 (.bi .neq t68 (.v (.string ⟨#[]⟩))),oM 70 t69,oF 71 (.mv t0) 70,oF 72 (.index t71 (vI 0)) 70,oF 73 (.bi .or t72 (vC 32)) 70,oF 74 (.bi .eql t73 (vC 101)) 70,oP 75 (.pick t70 t74 vF)]) (.cond t75 (.seq (rg 0 [oM 76 t0,oP 77 (.sub none t76 (some (vI 1)) none),oM 0 t77]) (.seq (.seq (rg 89 [oM 78 t0,oP 79 (.bi .neq t78 (.v (.string ⟨#[]⟩))),oM 80 t79,oF 81 (.mv t0) 80,oF 82 (.index t81 (vI 0)) 80,oF 83 (.bi .eql t82 (vC 43)) 80,oF 84 (.mv t83) 80,oE 85 (.mv t0) 84,oE 86 (.index t85 (vI 0)) 84,oE 87 (.bi .eql t86 (vC 45)) 84,oF 88 (.pick t84 vT t87) 80,oP 89 (.pick t80 t88 vF)]) (.cond t89 (.reg 0 (some [0,1,2,3,4,5,6,7]) [oM 90 t0,oP 91 (.index t90 (vI 0)),oP 92 (.bi .eql t91 (vC 45)),oM 93 t0,oP 94 (.sub none t93 (some (vI 1)) none),oP 95 (.faddr 5 t6),oN (.store 1 t95 t92),oM 0 t94]) .skip)) (.cn [0,4,6,7] (.sub 3 zab_b3)))) .skip)) (.cn [0,4,6,7] (.exit 0)))
def zab_b4:IQ:=(.seq (rg 12 [oP 110 (.faddr 1 t6),oP 111 (.load none t110),oM 112 t7,oP 113 (.bi .add t111 t112),oM 12 t113]) (.seq (rg 0 [oM 114 t12,oP 115 (.call 63 [t114,(.v (.string ⟨#[48]⟩))]),oP 116 (.faddr 2 t6),oN (.store 1 t116 t115)]) (.seq (rg 0 [oP 117 (.faddr 1 t6),oP 118 (.load none t117),oP 119 (.lenS t118),oM 120 t12,oP 121 (.lenS t120),oP 122 (.faddr 2 t6),oP 123 (.load none t122),oP 124 (.lenS t123),oP 125 (.bi .sub t121 t124),oP 126 (.bi .sub t119 t125),oP 127 (.faddr 3 t6),oN (.store 1 t127 t126)]) (.seq (rg 0 [oP 128 (.faddr 2 t6),oP 129 (.load none t128),oP 130 (.call 64 [t129,(.v (.string ⟨#[48]⟩))]),oP 131 (.faddr 2 t6),oN (.store 1 t131 t130)]) (.seq (.seq (rg 134 [oP 132 (.faddr 6 t6),oP 133 (.load none t132),oP 134 (.bi .eql t133 (.v (.string ⟨#[]⟩)))]) (.cond t134 (rg 0 [oP 135 (.faddr 5 t6),oN (.store 1 t135 vF)]) .skip)) (.seq (rg 5 [oP 136 (.load (some 7) t6),oM 137 t0,oP 138 (.bi .eql t137 (.v (.string ⟨#[]⟩))),oN (.store 7 t4 t136),oM 5 t138]) (.cn [4,5] .ret)))))))
def zab_q:IQ:=(.seq (rg 5 [oP 4 (.alloc 72 [.bool false,.string ⟨#[]⟩,.string ⟨#[]⟩,.int .i64 0,.bool false,.bool false,.string ⟨#[]⟩]),oP 5 (.mv vF)]) (.seq (rg 0 [oP 13 (.build [.bool false,.string ⟨#[]⟩,.string ⟨#[]⟩,.int .i64 0,.bool false,.bool false,.string ⟨#[]⟩] [(4,1,vT)]),oP 6 (.alloc 72 [.bool false,.string ⟨#[]⟩,.string ⟨#[]⟩,.int .i64 0,.bool false,.bool false,.string ⟨#[]⟩]),oN (.store 7 t6 t13)]) (.seq (rg 7 [oP 7 (.mv (.v (.string ⟨#[]⟩)))]) (.seq (.seq (rg 14 [oM 14 t1]) (.block 0 (.seq (.block 4 (.seq (.block 3 (.seq (.block 2 (.seq (.block 1 (.seq (.seq (.seq (rg 15 [oP 16 (.bi .eql t14 (vI 0)),oM 15 t16]) (.cond t15 (.exit 1) .skip)) (.seq (.seq (rg 17 [oP 18 (.bi .eql t14 (vI 1)),oM 17 t18]) (.cond t17 (.exit 2) .skip)) (.seq (.seq (rg 19 [oP 20 (.bi .eql t14 (vI 2)),oM 19 t20]) (.cond t19 (.exit 3) .skip)) (.seq (rg 21 [oP 22 (.bi .eql t14 (vI 3)),oM 21 t22]) (.cond t21 (.exit 4) .skip))))) (.exit 0))) (rg 0 [oM 24 t0,oP 25 (.call 61 [t24,(.v (.string ⟨#[45]⟩))]),oM 23 t25,oP 26 (.extract t23 0),oP 27 (.extract t23 1),oM 0 t26,oP 28 (.faddr 0 t6),oN (.store 1 t28 t27)]))) (.cn [0,4,6,7] (.sub 0 zab_b0)))) (.cn [0,4,6,7] (.sub 1 zab_b1)))) (.cn [0,4,6,7] (.sub 2 zab_b2))))) (.cn [0,4,6,7] (.sub 4 zab_b4))))))
def zab_p0 (s:BA):Option (Bool ⊕ (BA × BA)) :=
 (zac_s s).bind fun r2 =>
 gd ((decide ((1:Int)<r2))=true→(decide (r2=(0:Int)))=false→0≤(0:Int)∧(0:Int)<s.size) <|
 bif ((decide (r2=(0:Int))) || ((decide ((1:Int)<r2)) && (decide ((bAt s (0:Int))=(48:Int))))) then (
  some (.inl false))
 else (
  gd (0≤(0:Int)∧(0:Int)≤r2∧r2≤s.size) <|
  gd (0≤r2∧r2≤(s.size:Int)∧(s.size:Int)≤s.size) <|
  some (.inr ((s.extract (Int.toNat r2) s.size),(s.extract 0 (Int.toNat r2)))))
def zab_p1 (s behind:BA) (n_plain:Bool):Option (Bool ⊕ (BA × BA × Bool)) :=
 (zdk_s s (⟨#[46]⟩:BA)).bind fun r4 =>
 bif r4.2 then (
  (zac_s r4.1).bind fun r5 =>
  bif decide (r5=(0:Int)) then (
   some (.inl false))
  else (
   gd (0≤(0:Int)∧(0:Int)≤r5∧r5≤r4.1.size) <|
   gd (0≤r5∧r5≤(r4.1.size:Int)∧(r4.1.size:Int)≤r4.1.size) <|
   some (.inr ((r4.1.extract (Int.toNat r5) r4.1.size),(r4.1.extract 0 (Int.toNat r5)),false))))
 else (
  some (.inr (s,behind,n_plain)))
def zab_p3 (s:BA):Option (Bool ⊕ (BA × Bool × BA)) :=
 bif decide (s=(⟨#[]⟩:BA)) then (
  some (.inl false))
 else (
  (zac_s s).bind fun r7 =>
  bif (!decide (r7=(s.size:Int))) then (
   some (.inl false))
  else (
   (zdn_s s (⟨#[48]⟩:BA)).bind fun r8 =>
   some (.inr ((⟨#[]⟩:BA),false,r8))))
def zab_p2 (s:BA) (n_plain n_down:Bool) (n_exp:BA):Option ((Bool × Bool) ⊕ (BA × Bool × Bool × BA)) :=
 gd ((!decide (s=(⟨#[]⟩:BA)))=true→0≤(0:Int)∧(0:Int)<s.size) <|
 bif ((!decide (s=(⟨#[]⟩:BA))) && (decide ((qBy .u8 (bAt s (0:Int)) (32:Int))=(101:Int)))) then (
  gd (0≤(1:Int)∧(1:Int)≤(s.size:Int)∧(s.size:Int)≤s.size) <|
  gd ((!decide ((s.extract 1 s.size)=(⟨#[]⟩:BA)))=true→0≤(0:Int)∧(0:Int)<(s.extract 1 s.size).size) <|
  gd ((decide ((bAt (s.extract 1 s.size) (0:Int))=(43:Int)))=false→(!decide ((s.extract 1 s.size)=(⟨#[]⟩:BA)))=true→0≤(0:Int)∧(0:Int)<(s.extract 1 s.size).size) <|
  bif ((!decide ((s.extract 1 s.size)=(⟨#[]⟩:BA))) && ((decide ((bAt (s.extract 1 s.size) (0:Int))=(43:Int))) || (decide ((bAt (s.extract 1 s.size) (0:Int))=(45:Int))))) then (
   gd (0≤(0:Int)∧(0:Int)<(s.extract 1 s.size).size) <|
   gd (0≤(1:Int)∧(1:Int)≤((s.extract 1 s.size).size:Int)∧((s.extract 1 s.size).size:Int)≤(s.extract 1 s.size).size) <|
   (zab_p3 ((s.extract 1 s.size).extract 1 (s.extract 1 s.size).size)).bind fun o9=>(Sum.elim (fun (o9_0:Bool) =>
    some (.inl (o9_0,decide ((bAt (s.extract 1 s.size) (0:Int))=(45:Int))))) (fun (o9_1:BA × Bool × BA) =>
    some (.inr (o9_1.1,o9_1.2.1,decide ((bAt (s.extract 1 s.size) (0:Int))=(45:Int)),o9_1.2.2)))) o9)
  else (
   (zab_p3 (s.extract 1 s.size)).bind fun o10=>(Sum.elim (fun (o10_0:Bool) =>
    some (.inl (o10_0,n_down))) (fun (o10_1:BA × Bool × BA) =>
    some (.inr (o10_1.1,o10_1.2.1,n_down,o10_1.2.2)))) o10))
 else (
  some (.inr (s,n_plain,n_down,n_exp)))
def zab_p4 (s behind n_whole:BA) (n_down:Bool) (n_exp:BA):Option (Bool × BA × Int × Bool) :=
 gd (n_whole.size+behind.size≤9223372036854775807) <|
 (zdn_s (n_whole++behind) (⟨#[48]⟩:BA)).bind fun r12 =>
 gd (qAf (((n_whole++behind).size:Int) - (r12.size:Int))) <|
 gd (qAf ((n_whole.size:Int) - (((n_whole++behind).size:Int) - (r12.size:Int)))) <|
 (zdo_s r12 (⟨#[48]⟩:BA)).bind fun r13 =>
 bif decide (n_exp=(⟨#[]⟩:BA)) then (
  some (decide (s=(⟨#[]⟩:BA)),r13,((n_whole.size:Int) - (((n_whole++behind).size:Int) - (r12.size:Int))),false))
 else (
  some (decide (s=(⟨#[]⟩:BA)),r13,((n_whole.size:Int) - (((n_whole++behind).size:Int) - (r12.size:Int))),n_down))
def zab_s (s:BA) (part:Int):Option (decimal_number × Bool) :=
 bif decide (part=(0:Int)) then (
  (zdk_s s (⟨#[45]⟩:BA)).bind fun r1 =>
  (zab_p0 r1.1).bind fun o3=>(Sum.elim (fun (o3_0:Bool) =>
   some ((⟨r1.2,(⟨#[]⟩:BA),(⟨#[]⟩:BA),(0:Int),true,false,(⟨#[]⟩:BA)⟩:decimal_number),o3_0)) (fun (o3_1:BA × BA) =>
   (zab_p1 o3_1.1 (⟨#[]⟩:BA) true).bind fun o6=>(Sum.elim (fun (o6_0:Bool) =>
    some ((⟨r1.2,o3_1.2,(⟨#[]⟩:BA),(0:Int),true,false,(⟨#[]⟩:BA)⟩:decimal_number),o6_0)) (fun (o6_1:BA × BA × Bool) =>
    (zab_p2 o6_1.1 o6_1.2.2 false (⟨#[]⟩:BA)).bind fun o11=>(Sum.elim (fun (o11_0:Bool × Bool) =>
     some ((⟨r1.2,o3_1.2,(⟨#[]⟩:BA),(0:Int),o6_1.2.2,o11_0.2,(⟨#[]⟩:BA)⟩:decimal_number),o11_0.1)) (fun (o11_1:BA × Bool × Bool × BA) =>
     (zab_p4 o11_1.1 o6_1.2.1 o3_1.2 o11_1.2.2.1 o11_1.2.2.2).bind fun o14 =>
     some ((⟨r1.2,o3_1.2,o14.2.1,o14.2.2.1,o11_1.2.1,o14.2.2.2,o11_1.2.2.2⟩:decimal_number),o14.1))) o11)) o6)) o3)
 else (
  bif decide (part=(1:Int)) then (
   (zab_p0 s).bind fun o15=>(Sum.elim (fun (o15_0:Bool) =>
    some ((⟨false,(⟨#[]⟩:BA),(⟨#[]⟩:BA),(0:Int),true,false,(⟨#[]⟩:BA)⟩:decimal_number),o15_0)) (fun (o15_1:BA × BA) =>
    (zab_p1 o15_1.1 (⟨#[]⟩:BA) true).bind fun o16=>(Sum.elim (fun (o16_0:Bool) =>
     some ((⟨false,o15_1.2,(⟨#[]⟩:BA),(0:Int),true,false,(⟨#[]⟩:BA)⟩:decimal_number),o16_0)) (fun (o16_1:BA × BA × Bool) =>
     (zab_p2 o16_1.1 o16_1.2.2 false (⟨#[]⟩:BA)).bind fun o17=>(Sum.elim (fun (o17_0:Bool × Bool) =>
      some ((⟨false,o15_1.2,(⟨#[]⟩:BA),(0:Int),o16_1.2.2,o17_0.2,(⟨#[]⟩:BA)⟩:decimal_number),o17_0.1)) (fun (o17_1:BA × Bool × Bool × BA) =>
      (zab_p4 o17_1.1 o16_1.2.1 o15_1.2 o17_1.2.2.1 o17_1.2.2.2).bind fun o18 =>
      some ((⟨false,o15_1.2,o18.2.1,o18.2.2.1,o17_1.2.1,o18.2.2.2,o17_1.2.2.2⟩:decimal_number),o18.1))) o17)) o16)) o15)
  else (
   bif decide (part=(2:Int)) then (
    (zab_p1 s (⟨#[]⟩:BA) true).bind fun o19=>(Sum.elim (fun (o19_0:Bool) =>
     some ((⟨false,(⟨#[]⟩:BA),(⟨#[]⟩:BA),(0:Int),true,false,(⟨#[]⟩:BA)⟩:decimal_number),o19_0)) (fun (o19_1:BA × BA × Bool) =>
     (zab_p2 o19_1.1 o19_1.2.2 false (⟨#[]⟩:BA)).bind fun o20=>(Sum.elim (fun (o20_0:Bool × Bool) =>
      some ((⟨false,(⟨#[]⟩:BA),(⟨#[]⟩:BA),(0:Int),o19_1.2.2,o20_0.2,(⟨#[]⟩:BA)⟩:decimal_number),o20_0.1)) (fun (o20_1:BA × Bool × Bool × BA) =>
      (zab_p4 o20_1.1 o19_1.2.1 (⟨#[]⟩:BA) o20_1.2.2.1 o20_1.2.2.2).bind fun o21 =>
      some ((⟨false,(⟨#[]⟩:BA),o21.2.1,o21.2.2.1,o20_1.2.1,o21.2.2.2,o20_1.2.2.2⟩:decimal_number),o21.1))) o20)) o19)
   else (
    bif decide (part=(3:Int)) then (
     (zab_p2 s true false (⟨#[]⟩:BA)).bind fun o22=>(Sum.elim (fun (o22_0:Bool × Bool) =>
      some ((⟨false,(⟨#[]⟩:BA),(⟨#[]⟩:BA),(0:Int),true,o22_0.2,(⟨#[]⟩:BA)⟩:decimal_number),o22_0.1)) (fun (o22_1:BA × Bool × Bool × BA) =>
      (zab_p4 o22_1.1 (⟨#[]⟩:BA) (⟨#[]⟩:BA) o22_1.2.2.1 o22_1.2.2.2).bind fun o23 =>
      some ((⟨false,(⟨#[]⟩:BA),o23.2.1,o23.2.2.1,o22_1.2.1,o23.2.2.2,o22_1.2.2.2⟩:decimal_number),o23.1))) o22)
    else (
     (zab_p4 s (⟨#[]⟩:BA) (⟨#[]⟩:BA) false (⟨#[]⟩:BA)).bind fun o24 =>
     some ((⟨false,(⟨#[]⟩:BA),o24.2.1,o24.2.2.1,true,o24.2.2.2,(⟨#[]⟩:BA)⟩:decimal_number),o24.1)))))
def zab_G:Nat→Option CQ:=tblQ [(61,zdk_w),(62,zac_w),(63,zdn_w),(64,zdo_w)]
def zDGC2:=(qEr 72 (qAa dB (qAa dS (qAa dS (qAa dZ (qAa dB (qAa dB (qAa dS dNil))))))))
def zDGC3:=(qAa (dSO 0 dS) (qAa (dSO 4 (dH 0 0)) (qAa (dSO 6 (dH 1 0)) (qAa (dSO 7 dS) dNil))))
def zDGC5:=(qAa zDGC2 (qAa zDGC2 dNil))
def zab_d0:=(dQS zDGC3 zDGC5)
def zab_l0:SubQ:=mkL zab_d0 (fun x=>zab_p0 x.1.1) fun x r R kn kx kr=>(Sum.elim (fun (r_0:Bool)=>kr ⟨[sL 4 (.hd 0 0),sL 5 (.vB r_0)],[],[.cells 72 [.vB x.2.2.1.1,.vS x.2.2.1.2.1,.vS x.2.2.1.2.2.1,.vI x.2.2.1.2.2.2.1,.vB x.2.2.1.2.2.2.2.1,.vB x.2.2.1.2.2.2.2.2.1,.vS x.2.2.1.2.2.2.2.2.2.1]]⟩) (fun (r_1:BA × BA)=>kn ⟨[sL 0 (.vS r_1.1),sL 4 (.hd 0 0),sL 6 (.hd 1 0),sL 7 (.vS x.1.2.2.2.1)],[],[.cells 72 [.vB x.2.1.1,.vS x.2.1.2.1,.vS x.2.1.2.2.1,.vI x.2.1.2.2.2.1,.vB x.2.1.2.2.2.2.1,.vB x.2.1.2.2.2.2.2.1,.vS x.2.1.2.2.2.2.2.2.1],.cells 72 [.vB x.2.2.1.1,.vS r_1.2,.vS x.2.2.1.2.2.1,.vI x.2.2.1.2.2.2.1,.vB x.2.2.1.2.2.2.2.1,.vB x.2.2.1.2.2.2.2.2.1,.vS x.2.2.1.2.2.2.2.2.2.1]]⟩)) r
def zab_d1:=(dQS zDGC3 zDGC5)
def zab_l1:SubQ:=mkL zab_d1 (fun x=>zab_p1 x.1.1 x.1.2.2.2.1 x.2.2.1.2.2.2.2.1) fun x r R kn kx kr=>(Sum.elim (fun (r_0:Bool)=>kr ⟨[sL 4 (.hd 0 0),sL 5 (.vB r_0)],[],[.cells 72 [.vB x.2.2.1.1,.vS x.2.2.1.2.1,.vS x.2.2.1.2.2.1,.vI x.2.2.1.2.2.2.1,.vB x.2.2.1.2.2.2.2.1,.vB x.2.2.1.2.2.2.2.2.1,.vS x.2.2.1.2.2.2.2.2.2.1]]⟩) (fun (r_1:BA × BA × Bool)=>kn ⟨[sL 0 (.vS r_1.1),sL 4 (.hd 0 0),sL 6 (.hd 1 0),sL 7 (.vS r_1.2.1)],[],[.cells 72 [.vB x.2.1.1,.vS x.2.1.2.1,.vS x.2.1.2.2.1,.vI x.2.1.2.2.2.1,.vB x.2.1.2.2.2.2.1,.vB x.2.1.2.2.2.2.2.1,.vS x.2.1.2.2.2.2.2.2.1],.cells 72 [.vB x.2.2.1.1,.vS x.2.2.1.2.1,.vS x.2.2.1.2.2.1,.vI x.2.2.1.2.2.2.1,.vB r_1.2.2,.vB x.2.2.1.2.2.2.2.2.1,.vS x.2.2.1.2.2.2.2.2.2.1]]⟩)) r
def zab_d3:=(dQS zDGC3 zDGC5)
def zab_l3:SubQ:=mkL zab_d3 (fun x=>zab_p3 x.1.1) fun x r R kn kx kr=>(Sum.elim (fun (r_0:Bool)=>kr ⟨[sL 4 (.hd 0 0),sL 5 (.vB r_0)],[],[.cells 72 [.vB x.2.2.1.1,.vS x.2.2.1.2.1,.vS x.2.2.1.2.2.1,.vI x.2.2.1.2.2.2.1,.vB x.2.2.1.2.2.2.2.1,.vB x.2.2.1.2.2.2.2.2.1,.vS x.2.2.1.2.2.2.2.2.2.1]]⟩) (fun (r_1:BA × Bool × BA)=>kn ⟨[sL 0 (.vS r_1.1),sL 4 (.hd 0 0),sL 6 (.hd 1 0),sL 7 (.vS x.1.2.2.2.1)],[],[.cells 72 [.vB x.2.1.1,.vS x.2.1.2.1,.vS x.2.1.2.2.1,.vI x.2.1.2.2.2.1,.vB x.2.1.2.2.2.2.1,.vB x.2.1.2.2.2.2.2.1,.vS x.2.1.2.2.2.2.2.2.1],.cells 72 [.vB x.2.2.1.1,.vS x.2.2.1.2.1,.vS x.2.2.1.2.2.1,.vI x.2.2.1.2.2.2.1,.vB r_1.2.1,.vB x.2.2.1.2.2.2.2.2.1,.vS r_1.2.2]]⟩)) r
def zab_d2:=(dQS zDGC3 zDGC5)
def zab_l2:SubQ:=mkL zab_d2 (fun x=>zab_p2 x.1.1 x.2.2.1.2.2.2.2.1 x.2.2.1.2.2.2.2.2.1 x.2.2.1.2.2.2.2.2.2.1) fun x r R kn kx kr=>(Sum.elim (fun (r_0:Bool × Bool)=>kr ⟨[sL 4 (.hd 0 0),sL 5 (.vB r_0.1)],[],[.cells 72 [.vB x.2.2.1.1,.vS x.2.2.1.2.1,.vS x.2.2.1.2.2.1,.vI x.2.2.1.2.2.2.1,.vB x.2.2.1.2.2.2.2.1,.vB r_0.2,.vS x.2.2.1.2.2.2.2.2.2.1]]⟩) (fun (r_1:BA × Bool × Bool × BA)=>kx 0 ⟨[sL 0 (.vS r_1.1),sL 4 (.hd 0 0),sL 6 (.hd 1 0),sL 7 (.vS x.1.2.2.2.1)],[],[.cells 72 [.vB x.2.1.1,.vS x.2.1.2.1,.vS x.2.1.2.2.1,.vI x.2.1.2.2.2.1,.vB x.2.1.2.2.2.2.1,.vB x.2.1.2.2.2.2.2.1,.vS x.2.1.2.2.2.2.2.2.1],.cells 72 [.vB x.2.2.1.1,.vS x.2.2.1.2.1,.vS x.2.2.1.2.2.1,.vI x.2.2.1.2.2.2.1,.vB r_1.2.1,.vB r_1.2.2.1,.vS r_1.2.2.2]]⟩)) r
def zab_d4:=(dQS zDGC3 zDGC5)
def zab_l4:SubQ:=mkL zab_d4 (fun x=>zab_p4 x.1.1 x.1.2.2.2.1 x.2.2.1.2.1 x.2.2.1.2.2.2.2.2.1 x.2.2.1.2.2.2.2.2.2.1) fun x r R kn kx kr=>kr ⟨[sL 4 (.hd 0 0),sL 5 (.vB r.1)],[],[.cells 72 [.vB x.2.2.1.1,.vS x.2.2.1.2.1,.vS r.2.1,.vI r.2.2.1,.vB x.2.2.1.2.2.2.2.1,.vB r.2.2.2,.vS x.2.2.1.2.2.2.2.2.2.1]]⟩
def zab_L:Nat→SubQ:=tblL [(0,zab_l0),(1,zab_l1),(3,zab_l3),(2,zab_l2),(4,zab_l4)]
theorem zab_sub0:qA0 zab_L zab_G 0 15 139 0 zab_b0:=qAp (show zab_L 0=zab_l0 from by kernel_rfl) fun x R kn kx kr=>by
 simp only [zab_p0,-eq_self,qAc,qAe,obA,obS,slL,slR,qAd];kernel_rfl
theorem zab_sub1:qA0 zab_L zab_G 0 15 139 1 zab_b1:=qAp (show zab_L 1=zab_l1 from by kernel_rfl) fun x R kn kx kr=>by
 simp only [zab_p1,-eq_self,qAc,qAe,obA,obS,slL,slR,qAd];kernel_rfl
theorem zab_sub3:qA0 zab_L zab_G 0 15 139 3 zab_b3:=qAp (show zab_L 3=zab_l3 from by kernel_rfl) fun x R kn kx kr=>by
 simp only [zab_p3,-eq_self,qAc,qAe,obA,obS,slL,slR,qAd];kernel_rfl
theorem zab_sub2:qA0 zab_L zab_G 0 15 139 2 zab_b2:=qAp (show zab_L 2=zab_l2 from by kernel_rfl) fun x R kn kx kr=>by
 simp only [zab_p2,-eq_self,qAc,qAe,obA,obS,slL,slR,qAd];kernel_rfl
theorem zab_sub4:qA0 zab_L zab_G 0 15 139 4 zab_b4:=qAp (show zab_L 4=zab_l4 from by kernel_rfl) fun x R kn kx kr=>by
 simp only [zab_p4,-eq_self,qAc,qAe,obA,obS,slL,slR,qAd];kernel_rfl
def zab_c:CS:=mkC (qAa (dVC (dCO dS)) (qAa (dVC (dCO dZ)) dNil)) dNil (fun x y=>zab_s x.1 x.2.1) (fun x y r=>.tup [.agg [.vB r.1.minus,.vS r.1.whole,.vS r.1.digits,.vI r.1.point,.vB r.1.plain,.vB r.1.down,.vS r.1.exp_],.o (.vB r.2)]) fun x y r=>[]
theorem zab_val:qAj Tryz.prog 53 zab_c:=vl1 zab_q [.cell 4 (some 7),.tmp 5] 139 15 0 (show qAu zab_L zab_G 0 15 139 [(0,zab_b0),(1,zab_b1),(2,zab_b2),(3,zab_b3),(4,zab_b4)] from ⟨zab_sub0,zab_sub1,zab_sub2,zab_sub3,zab_sub4,tV⟩) (qAl ⟨zdk_ok,zac_ok,zdn_ok,zdo_ok,tV⟩) fun x y=>by
 simp only [zab_s,-eq_self,qAc,qAe,obA,obS,slL,slR,qAd];kernel_rfl
def zab_w:CQ:=qCl [] zab_c
theorem zab_ok:qAg Tryz.prog 53 zab_w:=qAn zab_val
def zaa_q:IQ:=(.seq (rg 2 [oP 2 (.mv vF)]) (.seq (rg 4 [oM 6 t0,oP 7 (.call 53 [t6,(vI 0)]),oM 5 t7,oP 8 (.extract t5 0),oP 9 (.extract t5 1),oP 3 (.alloc 72 [.bool false,.string ⟨#[]⟩,.string ⟨#[]⟩,.int .i64 0,.bool false,.bool false,.string ⟨#[]⟩]),oN (.store 7 t3 t8),oM 4 t9]) (.seq (rg 2 [oM 10 t4,oM 2 t10]) (.cn [2] .ret))))
def zaa_s (text:BA):Option Bool :=
 (zab_s text (0:Int)).bind fun r1 =>
 some r1.2
def zaa_c:CS:=mkC (qAa (dVC (dCO dS)) dNil) dNil (fun x y=>zaa_s x.1) (fun x y r=>.c (.o (.vB r))) fun x y r=>[]
theorem zaa_val:qAj Tryz.prog 45 zaa_c:=vl0 zaa_q [.tmp 2] 11 5 0 [(53,zab_w)] ⟨zab_ok,tV⟩ fun x y=>by
 simp only [zaa_s,-eq_self,qAc,qAe,obA,obS,slL,slR,qAd];kernel_rfl
def zaa_w:CQ:=qCl [] zaa_c
theorem zaa_ok:qAg Tryz.prog 45 zaa_w:=qAn zaa_val
def zcu_q:IQ:=(.seq (rg 4 [oP 4 (.mv vF)]) (.seq (rg 4 [oM 5 t1,oM 6 t0,oP 7 (.lenS t6),oP 8 (.bi .lss t5 t7),oM 9 t8,oF 10 (.mv t0) 9,oF 11 (.mv t1) 9,oF 12 (.index t10 t11) 9,oF 13 (.bi .geq t12 (vC 48)) 9,oP 14 (.pick t9 t13 vF),oM 15 t14,oF 16 (.mv t0) 15,oF 17 (.mv t1) 15,oF 18 (.index t16 t17) 15,oF 19 (.bi .leq t18 (vC 57)) 15,oP 20 (.pick t15 t19 vF),oM 4 t20]) (.cn [4] .ret)))
def zcu_s (s:BA) (at_:Int):Option Bool :=
 gd ((decide (at_<(s.size:Int)))=true→0≤at_∧at_<s.size) <|
 gd (((decide (at_<(s.size:Int))) && (decide ((48:Int)≤(bAt s at_))))=true→0≤at_∧at_<s.size) <|
 some (((decide (at_<(s.size:Int))) && (decide ((48:Int)≤(bAt s at_)))) && (decide ((bAt s at_)≤(57:Int))))
def zcu_c:CS:=mkC (qAa (dVC (dCO dS)) (qAa (dVC (dCO dZ)) dNil)) dNil (fun x y=>zcu_s x.1 x.2.1) (fun x y r=>.c (.o (.vB r))) fun x y r=>[]
theorem zcu_val:qAj Tryz.prog 117 zcu_c:=vl0 zcu_q [.tmp 4] 21 5 0 [] trivial fun x y=>by
 simp only [zcu_s,-eq_self,qAc,qAe,obA,obS,slL,slR,qAd];kernel_rfl
def zcu_w:CQ:=qCl [] zcu_c
theorem zcu_ok:qAg Tryz.prog 117 zcu_w:=qAn zcu_val
def zcv_b0:IQ:=(.loop [0,1] (.seq (.seq (rg 7 [oM 5 t0,oM 6 t1,oP 7 (.call 117 [t5,t6])]) (.cond t7 .skip (.cn [1] (.exit 0)))) (.block 1 (rg 1 [oM 8 t1,oP 9 (.bi .add t8 (vI 1)),oM 1 t9]))))
def zcv_q:IQ:=(.seq (rg 4 [oP 4 (.mv (vI 0))]) (.seq (.block 0 (.cn [0,1] (.sub 0 zcv_b0))) (.seq (rg 4 [oM 10 t1,oM 4 t10]) (.cn [4] .ret))))
def zcv_p0_step (s:BA) (at_:Int):Option (Int ⊕ Int) :=
 (zcu_s s at_).bind fun r2 =>
 bif r2 then (
  gd (qAf (at_+(1:Int))) <|
  some (.inl (at_+(1:Int))))
 else (
  some (.inr at_))
def zcv_p0 (s:BA) (at_:Int):Option Int :=
 qAw (fun x:Int=>zcv_p0_step s x) at_
def zcv_s (s:BA) (at_:Int):Option Int :=
 (zcv_p0 s at_).bind fun o3 =>
 some o3
def zcv_G:Nat→Option CQ:=tblQ [(117,zcu_w)]
def zcv_d0:=(dQS (qAa (dSO 0 dS) (qAa (dSO 1 dZ) dNil)) dNil)
def zcv_l0:SubQ:=mkL zcv_d0 (fun x=>zcv_p0 x.1.1 x.1.2.1) fun x r R kn kx kr=>kx 0 ⟨[sL 1 (.vI r)],[],[]⟩
def zcv_L:Nat→SubQ:=tblL [(0,zcv_l0)]
theorem zcv_sub0:qA0 zcv_L zcv_G 0 5 11 0 zcv_b0:=qAp (show zcv_L 0=zcv_l0 from by kernel_rfl) fun x R kn kx kr=>qAm (step:=fun y=>zcv_p0_step x.1.1 y) (enc:=fun (y:Int)=>zcv_d0.e ((x.1.1,y,x.1.2.2),x.2)) (fun y=>by kernel_rfl) (fun y ki=>by simp only [zcv_p0_step,-eq_self,qAc,qAe,obA,obS,slL,slR,qAd]; kernel_rfl) x.1.2.1
def zcv_c:CS:=mkC (qAa (dVC (dCO dS)) (qAa (dVC (dCO dZ)) dNil)) dNil (fun x y=>zcv_s x.1 x.2.1) (fun x y r=>.c (.o (.vI r))) fun x y r=>[]
theorem zcv_val:qAj Tryz.prog 103 zcv_c:=vl1 zcv_q [.tmp 4] 11 5 0 (show qAu zcv_L zcv_G 0 5 11 [(0,zcv_b0)] from ⟨zcv_sub0,tV⟩) (qAl ⟨zcu_ok,tV⟩) fun x y=>by
 simp only [zcv_s,-eq_self,qAc,qAe,obA,obS,slL,slR,qAd];kernel_rfl
def zcv_w:CQ:=qCl [] zcv_c
theorem zcv_ok:qAg Tryz.prog 103 zcv_w:=qAn zcv_val
def zcs_b3:IQ:=(.loop [0,2,4,7,9,10] (.seq (.seq (rg 140 [oM 138 t10,oM 139 t9,oP 140 (.bi .lss t138 t139)]) (.cond t140 .skip (.cn [0,2,4,7,9] (.exit 0)))) (.seq (.block 1 (.seq (rg 152 [oM 143 t0,oM 144 t10,oP 145 (.index t143 t144),oP 146 (.bi .neq t145 (vC 48)),oM 147 t146,oE 148 (.faddr 4 t4) 147,oE 149 (.load none t148) 147,oE 150 (.len t149) 147,oE 151 (.bi .gtr t150 (vI 0)) 147,oP 152 (.pick t147 vT t151)]) (.cond t152 (.reg 0 (some [0,1,2,3,4,5,6,7,8,9,10]) [oP 153 (.faddr 4 t4),oP 154 (.load none t153),oM 155 t0,oM 156 t10,oP 157 (.index t155 t156),oP 158 (.bi .sub t157 (vC 48)),oP 159 (.conv false .i64 t158),oP 160 (.bslice 3 1 1 [.int .i64 0] [(0,t159)]),oP 161 (.append 3 1 8 [.int .i64 0] t154 t160),oP 162 (.faddr 4 t4),oN (.store 1 t162 t161)]) .skip))) (rg 10 [oM 141 t10,oP 142 (.bi .add t141 (vI 1)),oM 10 t142]))))
def zcs_b2:IQ:=(.join [] [0,2,4,5,7] (.seq (rg 9 [oM 130 t0,oM 131 t5,oP 132 (.call 103 [t130,t131]),oM 9 t132]) (.seq (.seq (rg 135 [oM 133 t9,oM 134 t5,oP 135 (.bi .eql t133 t134)]) (.cond t135 (.seq (rg 3 [oP 136 (.load (some 7) t4),oN (.store 7 t2 t136),oP 3 (.mv vF)]) (.canon [(2,some 1,.i64,3),(2,some 4,.i64,3)] [2,3] .ret)) .skip)) (.seq (.seq (rg 10 [oM 137 t5,oM 10 t137]) (.block 0 (.canon [(4,some 4,.i64,3)] [0,2,4,7,9,10] (.sub 3 zcs_b3)))) (rg 5 [oM 163 t9,oM 5 t163])))))
def zcs_b5:IQ:=(.loop [2,4,7,11] (.seq (.seq (rg 172 [oM 169 t11,oM 170 t7,oP 171 (.lenS t170),oP 172 (.bi .lss t169 t171)]) (.cond t172 .skip (.cn [2,4] (.exit 2)))) (.seq (.block 3 (.seq (rg 12 [oM 175 t7,oM 176 t11,oP 177 (.index t175 t176),oP 178 (.bi .sub t177 (vC 48)),oP 179 (.conv false .i64 t178),oM 12 t179]) (.seq (rg 187 [oM 180 t12,oP 181 (.bi .neq t180 (vI 0)),oM 182 t181,oE 183 (.faddr 1 t4) 182,oE 184 (.load none t183) 182,oE 185 (.len t184) 182,oE 186 (.bi .gtr t185 (vI 0)) 182,oP 187 (.pick t182 vT t186)]) (.cond t187 (rg 0 [oP 188 (.faddr 1 t4),oP 189 (.load none t188),oM 190 t12,oP 191 (.bslice 3 1 1 [.int .i64 0] [(0,t190)]),oP 192 (.append 3 1 8 [.int .i64 0] t189 t191),oP 193 (.faddr 1 t4),oN (.store 1 t193 t192)]) (rg 0 [oP 194 (.faddr 2 t4),oP 195 (.load none t194),oP 196 (.bi .sub t195 (vI 1)),oP 197 (.faddr 2 t4),oN (.store 1 t197 t196)]))))) (rg 11 [oM 173 t11,oP 174 (.bi .add t173 (vI 1)),oM 11 t174]))))
def zcs_b6:IQ:=(.loop [2,4] (.seq (.seq (rg 212 [oP 198 (.faddr 1 t4),oP 199 (.load none t198),oP 200 (.len t199),oP 201 (.bi .gtr t200 (vI 0)),oM 202 t201,oF 203 (.faddr 1 t4) 202,oF 204 (.load none t203) 202,oF 205 (.faddr 1 t4) 202,oF 206 (.load none t205) 202,oF 207 (.len t206) 202,oF 208 (.bi .sub t207 (vI 1)) 202,oF 209 (.iaddr 1 t204 t208) 202,oF 210 (.load none t209) 202,oF 211 (.bi .eql t210 (vI 0)) 202,oP 212 (.pick t202 t211 vF)]) (.cond t212 .skip (.cn [2,4] (.exit 4)))) (.block 5 (rg 0 [oP 213 (.faddr 1 t4),oP 214 (.load none t213),oP 215 (.faddr 1 t4),oP 216 (.load none t215),oP 217 (.len t216),oP 218 (.bi .sub t217 (vI 1)),oP 219 (.sub (some 1) t214 none (some t218)),oP 220 (.faddr 1 t4),oN (.store 1 t220 t219)]))))
def zcs_b4:IQ:=(.seq (.seq (rg 167 [oM 164 t5,oM 165 t0,oP 166 (.lenS t165),oP 167 (.bi .neq t164 t166)]) (.cond t167 (.seq (rg 3 [oP 168 (.load (some 7) t4),oN (.store 7 t2 t168),oP 3 (.mv vF)]) (.canon [(2,some 1,.i64,3),(2,some 4,.i64,3)] [2,3] .ret)) .skip)) (.seq (.seq (rg 11 [oP 11 (.mv (vI 0))]) (.block 2 (.canon [(4,some 1,.i64,3)] [2,4,7,11] (.sub 5 zcs_b5)))) (.seq (.block 4 (.cn [2,4] (.sub 6 zcs_b6))) (.seq (rg 3 [oP 221 (.load (some 7) t4),oN (.store 7 t2 t221),oP 3 (.mv vT)]) (.canon [(2,some 1,.i64,3),(2,some 4,.i64,3)] [2,3] .ret)))))
def zcs_b1:IQ:=(.seq (.seq (rg 103 [oM 88 t5,oM 89 t0,oP 90 (.lenS t89),oP 91 (.bi .lss t88 t90),oM 92 t91,oF 93 (.mv t0) 92,oF 94 (.mv t5) 92,oF 95 (.index t93 t94) 92,oF 96 (.bi .eql t95 (vC 101)) 92,oF 97 (.mv t96) 92,oE 98 (.mv t0) 97,oE 99 (.mv t5) 97,oE 100 (.index t98 t99) 97,oE 101 (.bi .eql t100 (vC 69)) 97,oF 102 (.pick t97 vT t101) 92,oP 103 (.pick t92 t102 vF)]) (.cond t103 (.seq (rg 0 [oP 104 (.faddr 5 t4),oN (.store 1 t104 vF)]) (.seq (rg 5 [oM 105 t5,oP 106 (.bi .add t105 (vI 1)),oM 5 t106]) (.seq (.seq (rg 122 [oM 107 t5,oM 108 t0,oP 109 (.lenS t108),oP 110 (.bi .lss t107 t109),oM 111 t110,oF 112 (.mv t0) 111,oF 113 (.mv t5) 111,oF 114 (.index t112 t113) 111,oF 115 (.bi .eql t114 (vC 43)) 111,oF 116 (.mv t115) 111,oE 117 (.mv t0) 116,oE 118 (.mv t5) 116,oE 119 (.index t117 t118) 116,oE 120 (.bi .eql t119 (vC 45)) 116,oF 121 (.pick t116 vT t120) 111,oP 122 (.pick t111 t121 vF)]) (.cond t122 (.seq (rg 0 [oM 123 t0,oM 124 t5,oP 125 (.index t123 t124),oP 126 (.bi .eql t125 (vC 45)),oP 127 (.faddr 3 t4),oN (.store 1 t127 t126)]) (rg 5 [oM 128 t5,oP 129 (.bi .add t128 (vI 1)),oM 5 t129])) .skip)) (.cn [0,2,4,5,7] (.sub 2 zcs_b2))))) .skip)) (.canon [(4,some 4,.i64,3)] [0,2,4,5,7] (.sub 4 zcs_b4)))
def zcs_b0:IQ:=(.seq (rg 6 [oM 27 t5,oM 6 t27]) (.seq (rg 5 [oM 28 t0,oM 29 t5,oP 30 (.call 103 [t28,t29]),oM 5 t30]) (.seq (.seq (rg 45 [oM 31 t5,oM 32 t6,oP 33 (.bi .eql t31 t32),oM 34 t33,oE 35 (.mv t0) 34,oE 36 (.mv t6) 34,oE 37 (.index t35 t36) 34,oE 38 (.bi .eql t37 (vC 48)) 34,oE 39 (.mv t38) 34,oF 40 (.mv t5) 39,oF 41 (.mv t6) 39,oF 42 (.bi .add t41 (vI 1)) 39,oF 43 (.bi .gtr t40 t42) 39,oE 44 (.pick t39 t43 vF) 34,oP 45 (.pick t34 vT t44)]) (.cond t45 (.seq (rg 3 [oP 46 (.load (some 7) t4),oN (.store 7 t2 t46),oP 3 (.mv vF)]) (.canon [(2,some 1,.i64,3),(2,some 4,.i64,3)] [2,3] .ret)) .skip)) (.seq (rg 0 [oM 47 t0,oM 48 t6,oM 49 t5,oP 50 (.sub none t47 (some t48) (some t49)),oP 51 (.faddr 6 t4),oN (.store 1 t51 t50)]) (.seq (rg 7 [oM 52 t0,oM 53 t6,oM 54 t5,oP 55 (.sub none t52 (some t53) (some t54)),oM 7 t55]) (.seq (rg 0 [oM 56 t5,oM 57 t6,oP 58 (.bi .sub t56 t57),oP 59 (.faddr 2 t4),oN (.store 1 t59 t58)]) (.seq (.seq (rg 69 [oM 60 t5,oM 61 t0,oP 62 (.lenS t61),oP 63 (.bi .lss t60 t62),oM 64 t63,oF 65 (.mv t0) 64,oF 66 (.mv t5) 64,oF 67 (.index t65 t66) 64,oF 68 (.bi .eql t67 (vC 46)) 64,oP 69 (.pick t64 t68 vF)]) (.cond t69 (.seq (rg 0 [oP 70 (.faddr 5 t4),oN (.store 1 t70 vF)]) (.seq (rg 8 [oM 71 t0,oM 72 t5,oP 73 (.bi .add t72 (vI 1)),oP 74 (.call 103 [t71,t73]),oM 8 t74]) (.seq (.seq (rg 78 [oM 75 t8,oM 76 t5,oP 77 (.bi .add t76 (vI 1)),oP 78 (.bi .eql t75 t77)]) (.cond t78 (.seq (rg 3 [oP 79 (.load (some 7) t4),oN (.store 7 t2 t79),oP 3 (.mv vF)]) (.canon [(2,some 1,.i64,3),(2,some 4,.i64,3)] [2,3] .ret)) .skip)) (.seq (rg 7 [oM 80 t7,oM 81 t0,oM 82 t5,oP 83 (.bi .add t82 (vI 1)),oM 84 t8,oP 85 (.sub none t81 (some t83) (some t84)),oP 86 (.bi .add t80 t85),oM 7 t86]) (rg 5 [oM 87 t8,oM 5 t87]))))) .skip)) (.cn [0,2,4,5,7] (.sub 1 zcs_b1)))))))))
def zcs_q:IQ:=(.seq (rg 3 [oP 2 (.alloc 100 [.bool false,.slice none 0 0,.int .i64 0,.bool false,.slice none 0 0,.bool false,.string ⟨#[]⟩]),oP 3 (.mv vF)]) (.seq (rg 0 [oP 13 (.build [.bool false,.slice none 0 0,.int .i64 0,.bool false,.slice none 0 0,.bool false,.string ⟨#[]⟩] [(5,1,vT)]),oP 4 (.alloc 100 [.bool false,.slice none 0 0,.int .i64 0,.bool false,.slice none 0 0,.bool false,.string ⟨#[]⟩]),oN (.store 7 t4 t13)]) (.seq (rg 5 [oP 5 (.mv (vI 0))]) (.seq (.seq (rg 23 [oM 14 t5,oM 15 t0,oP 16 (.lenS t15),oP 17 (.bi .lss t14 t16),oM 18 t17,oF 19 (.mv t0) 18,oF 20 (.mv t5) 18,oF 21 (.index t19 t20) 18,oF 22 (.bi .eql t21 (vC 45)) 18,oP 23 (.pick t18 t22 vF)]) (.cond t23 (.seq (rg 0 [oP 24 (.faddr 0 t4),oN (.store 1 t24 vT)]) (rg 5 [oM 25 t5,oP 26 (.bi .add t25 (vI 1)),oM 5 t26])) .skip)) (.cn [0,2,4,5] (.sub 0 zcs_b0))))))
def zcs_p3_step (s:BA) (k_ i:Int) (qH7:List Int):Option ((Int × (List Int)) ⊕ ((List Int))) :=
 bif decide (i<k_) then (
  gd (0≤i∧i<s.size) <|
  bif ((!decide ((bAt s i)=(48:Int))) || (decide ((0:Int)<(qH7.length:Int)))) then (
   gd (0≤i∧i<s.size) <|
   gd (qAf (((bAt s i) - (48:Int)) % 256)) <|
   gd (qH7.length+([(((bAt s i) - (48:Int)) % 256)]:List Int).length≤9223372036854775807∧(qH7.length+([(((bAt s i) - (48:Int)) % 256)]:List Int).length)*8≤140737488355328) <|
   gd (qAf (i+(1:Int))) <|
   some (.inl ((i+(1:Int)),(qH7++[(((bAt s i) - (48:Int)) % 256)]))))
  else (
   gd (qAf (i+(1:Int))) <|
   some (.inl ((i+(1:Int)),qH7))))
 else (
  some (.inr qH7))
def zcs_p3 (s:BA) (k_ i:Int) (qH7:List Int):Option ((List Int)) :=
 qAw (fun x:(Int × (List Int))=>zcs_p3_step s k_ x.1 x.2) (i,qH7)
def zcs_p2 (s:BA) (at_:Int):Option ((Bool × (List Int) × (List Int)) ⊕ (Int × (List Int))) :=
 (zcv_s s at_).bind fun r81 =>
 bif decide (r81=at_) then (
  some (.inl (false,[],[])))
 else (
  (zcs_p3 s r81 at_ []).bind fun o82 =>
  some (.inr (r81,o82)))
def zcs_p5_step (all:BA) (i qH4:Int) (qHu:List Int):Option ((Int × Int × (List Int)) ⊕ (Int × (List Int))) :=
 bif decide (i<(all.size:Int)) then (
  gd (0≤i∧i<all.size) <|
  gd (qAf (((bAt all i) - (48:Int)) % 256)) <|
  bif ((!decide ((((bAt all i) - (48:Int)) % 256)=(0:Int))) || (decide ((0:Int)<(qHu.length:Int)))) then (
   gd (qHu.length+([(((bAt all i) - (48:Int)) % 256)]:List Int).length≤9223372036854775807∧(qHu.length+([(((bAt all i) - (48:Int)) % 256)]:List Int).length)*8≤140737488355328) <|
   gd (qAf (i+(1:Int))) <|
   some (.inl ((i+(1:Int)),qH4,(qHu++[(((bAt all i) - (48:Int)) % 256)]))))
  else (
   gd (qAf (qH4 - (1:Int))) <|
   gd (qAf (i+(1:Int))) <|
   some (.inl ((i+(1:Int)),(qH4 - (1:Int)),qHu))))
 else (
  some (.inr (qH4,qHu)))
def zcs_p5 (all:BA) (i qH4:Int) (qHu:List Int):Option (Int × (List Int)) :=
 qAw (fun x:(Int × Int × (List Int))=>zcs_p5_step all x.1 x.2.1 x.2.2) (i,qH4,qHu)
def zcs_p6_step (qHu:List Int):Option (((List Int)) ⊕ ((List Int))) :=
 gd ((decide ((0:Int)<(qHu.length:Int)))=true→qAf ((qHu.length:Int) - (1:Int))) <|
 gd ((decide ((0:Int)<(qHu.length:Int)))=true→0≤((qHu.length:Int) - (1:Int))∧((qHu.length:Int) - (1:Int))<qHu.length) <|
 gd ((decide ((0:Int)<(qHu.length:Int)))=true→(Int.toNat ((qHu.length:Int) - (1:Int)))<qHu.length) <|
 bif ((decide ((0:Int)<(qHu.length:Int))) && (decide ((qHu.getD (Int.toNat ((qHu.length:Int) - (1:Int))) (ET.dft .i64))=(0:Int)))) then (
  gd (qAf ((qHu.length:Int) - (1:Int))) <|
  gd (0≤((qHu.length:Int) - (1:Int))∧((qHu.length:Int) - (1:Int))≤qHu.length) <|
  some (.inl (qHu.take (Int.toNat ((qHu.length:Int) - (1:Int))))))
 else (
  some (.inr qHu))
def zcs_p6 (qHu:List Int):Option ((List Int)) :=
 qAw (fun x:((List Int))=>zcs_p6_step x) qHu
def zcs_p4 (s:BA) (at_:Int) (all:BA) (qH4:Int):Option (Bool × Int × (List Int)) :=
 bif (!decide (at_=(s.size:Int))) then (
  some (false,qH4,[]))
 else (
  (zcs_p5 all (0:Int) qH4 []).bind fun o84 =>
  (zcs_p6 o84.2).bind fun o85 =>
  some (true,o84.1,o85))
def zcs_p1 (s:BA) (at_:Int) (all:BA) (qH4:Int) (qH6 qH9:Bool):Option (Bool × Int × Bool × Bool × (List Int) × (List Int)) :=
 gd ((decide (at_<(s.size:Int)))=true→0≤at_∧at_<s.size) <|
 gd ((decide ((bAt s at_)=(101:Int)))=false→(decide (at_<(s.size:Int)))=true→0≤at_∧at_<s.size) <|
 bif ((decide (at_<(s.size:Int))) && ((decide ((bAt s at_)=(101:Int))) || (decide ((bAt s at_)=(69:Int))))) then (
  gd (qAf (at_+(1:Int))) <|
  gd ((decide ((at_+(1:Int))<(s.size:Int)))=true→0≤(at_+(1:Int))∧(at_+(1:Int))<s.size) <|
  gd ((decide ((bAt s (at_+(1:Int)))=(43:Int)))=false→(decide ((at_+(1:Int))<(s.size:Int)))=true→0≤(at_+(1:Int))∧(at_+(1:Int))<s.size) <|
  bif ((decide ((at_+(1:Int))<(s.size:Int))) && ((decide ((bAt s (at_+(1:Int)))=(43:Int))) || (decide ((bAt s (at_+(1:Int)))=(45:Int))))) then (
   gd (0≤(at_+(1:Int))∧(at_+(1:Int))<s.size) <|
   gd (qAf ((at_+(1:Int))+(1:Int))) <|
   (zcs_p2 s ((at_+(1:Int))+(1:Int))).bind fun o83=>(Sum.elim (fun (o83_0:Bool × (List Int) × (List Int)) =>
    some (o83_0.1,qH4,decide ((bAt s (at_+(1:Int)))=(45:Int)),false,o83_0.2.1,o83_0.2.2)) (fun (o83_1:Int × (List Int)) =>
    (zcs_p4 s o83_1.1 all qH4).bind fun o86 =>
    some (o86.1,o86.2.1,decide ((bAt s (at_+(1:Int)))=(45:Int)),false,o86.2.2,o83_1.2))) o83)
  else (
   (zcs_p2 s (at_+(1:Int))).bind fun o87=>(Sum.elim (fun (o87_0:Bool × (List Int) × (List Int)) =>
    some (o87_0.1,qH4,qH6,false,o87_0.2.1,o87_0.2.2)) (fun (o87_1:Int × (List Int)) =>
    (zcs_p4 s o87_1.1 all qH4).bind fun o88 =>
    some (o88.1,o88.2.1,qH6,false,o88.2.2,o87_1.2))) o87))
 else (
  (zcs_p4 s at_ all qH4).bind fun o89 =>
  some (o89.1,o89.2.1,qH6,qH9,o89.2.2,[]))
def zcs_p0 (s:BA) (at_ qH4:Int) (qH6 qH9:Bool) (qH8:BA):Option (Bool × Int × Bool × Bool × BA × (List Int) × (List Int)) :=
 (zcv_s s at_).bind fun r79 =>
 gd ((decide (r79=at_))=false→0≤at_∧at_<s.size) <|
 gd ((decide ((bAt s at_)=(48:Int)))=true→(decide (r79=at_))=false→qAf (at_+(1:Int))) <|
 bif ((decide (r79=at_)) || ((decide ((bAt s at_)=(48:Int))) && (decide ((at_+(1:Int))<r79)))) then (
  some (false,qH4,qH6,qH9,qH8,[],[]))
 else (
  gd (0≤at_∧at_≤r79∧r79≤s.size) <|
  gd (0≤at_∧at_≤r79∧r79≤s.size) <|
  gd (qAf (r79 - at_)) <|
  gd ((decide (r79<(s.size:Int)))=true→0≤r79∧r79<s.size) <|
  bif ((decide (r79<(s.size:Int))) && (decide ((bAt s r79)=(46:Int)))) then (
   gd (qAf (r79+(1:Int))) <|
   (zcv_s s (r79+(1:Int))).bind fun r80 =>
   gd (qAf (r79+(1:Int))) <|
   bif decide (r80=(r79+(1:Int))) then (
    some (false,(r79 - at_),qH6,false,(s.extract (Int.toNat at_) (Int.toNat r79)),[],[]))
   else (
    gd (qAf (r79+(1:Int))) <|
    gd (0≤(r79+(1:Int))∧(r79+(1:Int))≤r80∧r80≤s.size) <|
    gd ((s.extract (Int.toNat at_) (Int.toNat r79)).size+(s.extract (Int.toNat (r79+(1:Int))) (Int.toNat r80)).size≤9223372036854775807) <|
    (zcs_p1 s r80 ((s.extract (Int.toNat at_) (Int.toNat r79))++(s.extract (Int.toNat (r79+(1:Int))) (Int.toNat r80))) (r79 - at_) qH6 false).bind fun o90 =>
    some (o90.1,o90.2.1,o90.2.2.1,o90.2.2.2.1,(s.extract (Int.toNat at_) (Int.toNat r79)),o90.2.2.2.2.1,o90.2.2.2.2.2)))
  else (
   (zcs_p1 s r79 (s.extract (Int.toNat at_) (Int.toNat r79)) (r79 - at_) qH6 qH9).bind fun o91 =>
   some (o91.1,o91.2.1,o91.2.2.1,o91.2.2.2.1,(s.extract (Int.toNat at_) (Int.toNat r79)),o91.2.2.2.2.1,o91.2.2.2.2.2)))
def zcs_s (s:BA):Option (qH5 × Bool) :=
 gd ((decide ((0:Int)<(s.size:Int)))=true→0≤(0:Int)∧(0:Int)<s.size) <|
 bif ((decide ((0:Int)<(s.size:Int))) && (decide ((bAt s (0:Int))=(45:Int)))) then (
  gd (qAf ((0:Int)+(1:Int))) <|
  (zcs_p0 s ((0:Int)+(1:Int)) (0:Int) false true (⟨#[]⟩:BA)).bind fun o92 =>
  some ((⟨true,o92.2.2.2.2.2.1,o92.2.1,o92.2.2.1,o92.2.2.2.2.2.2,o92.2.2.2.1,o92.2.2.2.2.1⟩:qH5),o92.1))
 else (
  (zcs_p0 s (0:Int) (0:Int) false true (⟨#[]⟩:BA)).bind fun o93 =>
  some ((⟨false,o93.2.2.2.2.2.1,o93.2.1,o93.2.2.1,o93.2.2.2.2.2.2,o93.2.2.2.1,o93.2.2.2.2.1⟩:qH5),o93.1))
def zcs_G:Nat→Option CQ:=tblQ [(103,zcv_w)]
def zDGC1:=(qEr 100 (qAa dB (qAa dNS (qAa dZ (qAa dB (qAa dNS (qAa dB (qAa dS dNil))))))))
def zcs_d3:=(dQS (qAa (dSO 0 dS) (qAa (dSO 2 (dH 0 0)) (qAa (dSO 4 (dH 1 0)) (qAa (dSO 7 dS) (qAa (dSO 9 dZ) (qAa (dSO 10 dZ) dNil)))))) (qAa zDGC1 (qAa (qEr 100 (qAa dB (qAa dNS (qAa dZ (qAa dB (qAa (dO 2) (qAa dB (qAa dS dNil)))))))) (qAa (dRow .i64 3) dNil))))
def zcs_l3:SubQ:=mkL zcs_d3 (fun x=>zcs_p3 x.1.1 x.1.2.2.2.2.1 x.1.2.2.2.2.2.1 x.2.2.2.1) fun x r R kn kx kr=>kx 0 ⟨[sL 0 (.vS x.1.1),sL 2 (.hd 0 0),sL 4 (.hd 1 0),sL 7 (.vS x.1.2.2.2.1),sL 9 (.vI x.1.2.2.2.2.1)],[],[.cells 100 [.vB x.2.1.1,.val (.slice none 0 0),.vI x.2.1.2.2.1,.vB x.2.1.2.2.2.1,.val (.slice none 0 0),.vB x.2.1.2.2.2.2.2.1,.vS x.2.1.2.2.2.2.2.2.1],.cells 100 [.vB x.2.2.1.1,.val (.slice none 0 0),.vI x.2.2.1.2.2.1,.vB x.2.2.1.2.2.2.1,.own 2,.vB x.2.2.1.2.2.2.2.2.1,.vS x.2.2.1.2.2.2.2.2.2.1],.row .i64 3 r]⟩
def zDGC4:=(qAa (dSO 0 dS) (qAa (dSO 2 (dH 0 0)) (qAa (dSO 4 (dH 1 0)) (qAa (dSO 5 dZ) (qAa (dSO 7 dS) dNil)))))
def zDGC6:=(qAa zDGC1 (qAa zDGC1 dNil))
def zcs_d2:=(dQS zDGC4 zDGC6)
def zcs_l2:SubQ:=mkL zcs_d2 (fun x=>zcs_p2 x.1.1 x.1.2.2.2.1) fun x r R kn kx kr=>(Sum.elim (fun (r_0:Bool × (List Int) × (List Int))=>kr ⟨[sL 2 (.hd 0 0),sL 3 (.vB r_0.1)],[],[.cells 100 [.vB x.2.2.1.1,.own 1,.vI x.2.2.1.2.2.1,.vB x.2.2.1.2.2.2.1,.own 2,.vB x.2.2.1.2.2.2.2.2.1,.vS x.2.2.1.2.2.2.2.2.2.1],.row .i64 3 r_0.2.1,.row .i64 3 r_0.2.2]⟩) (fun (r_1:Int × (List Int))=>kn ⟨[sL 0 (.vS x.1.1),sL 2 (.hd 0 0),sL 4 (.hd 1 0),sL 5 (.vI r_1.1),sL 7 (.vS x.1.2.2.2.2.1)],[],[.cells 100 [.vB x.2.1.1,.val (.slice none 0 0),.vI x.2.1.2.2.1,.vB x.2.1.2.2.2.1,.val (.slice none 0 0),.vB x.2.1.2.2.2.2.2.1,.vS x.2.1.2.2.2.2.2.2.1],.cells 100 [.vB x.2.2.1.1,.val (.slice none 0 0),.vI x.2.2.1.2.2.1,.vB x.2.2.1.2.2.2.1,.own 2,.vB x.2.2.1.2.2.2.2.2.1,.vS x.2.2.1.2.2.2.2.2.2.1],.row .i64 3 r_1.2]⟩)) r
def zcs_d5:=(dQS (qAa (dSO 2 (dH 0 0)) (qAa (dSO 4 (dH 1 0)) (qAa (dSO 7 dS) (qAa (dSO 11 dZ) dNil)))) (qAa zDGC1 (qAa (qEr 100 (qAa dB (qAa (dO 2) (qAa dZ (qAa dB (qAa (dO 3) (qAa dB (qAa dS dNil)))))))) (qAa (dRow .i64 3) (qAa (dRow .i64 3) dNil)))))
def zcs_l5:SubQ:=mkL zcs_d5 (fun x=>zcs_p5 x.1.2.2.1 x.1.2.2.2.1 x.2.2.1.2.2.1 x.2.2.2.1) fun x r R kn kx kr=>kx 2 ⟨[sL 2 (.hd 0 0),sL 4 (.hd 1 0)],[],[.cells 100 [.vB x.2.1.1,.val (.slice none 0 0),.vI x.2.1.2.2.1,.vB x.2.1.2.2.2.1,.val (.slice none 0 0),.vB x.2.1.2.2.2.2.2.1,.vS x.2.1.2.2.2.2.2.2.1],.cells 100 [.vB x.2.2.1.1,.own 2,.vI r.1,.vB x.2.2.1.2.2.2.1,.own 3,.vB x.2.2.1.2.2.2.2.2.1,.vS x.2.2.1.2.2.2.2.2.2.1],.row .i64 3 r.2,.row .i64 3 x.2.2.2.2.1]⟩
def zcs_d6:=(dQS (qAa (dSO 2 (dH 0 0)) (qAa (dSO 4 (dH 1 0)) dNil)) (qAa zDGC1 (qAa (qEr 100 (qAa dB (qAa (dO 2) (qAa dZ (qAa dB (qAa (dO 3) (qAa dB (qAa dS dNil)))))))) (qAa (dRow .i64 3) (qAa (dRow .i64 3) dNil)))))
def zcs_l6:SubQ:=mkL zcs_d6 (fun x=>zcs_p6 x.2.2.2.1) fun x r R kn kx kr=>kx 4 ⟨[sL 2 (.hd 0 0),sL 4 (.hd 1 0)],[],[.cells 100 [.vB x.2.1.1,.val (.slice none 0 0),.vI x.2.1.2.2.1,.vB x.2.1.2.2.2.1,.val (.slice none 0 0),.vB x.2.1.2.2.2.2.2.1,.vS x.2.1.2.2.2.2.2.2.1],.cells 100 [.vB x.2.2.1.1,.own 2,.vI x.2.2.1.2.2.1,.vB x.2.2.1.2.2.2.1,.own 3,.vB x.2.2.1.2.2.2.2.2.1,.vS x.2.2.1.2.2.2.2.2.2.1],.row .i64 3 r,.row .i64 3 x.2.2.2.2.1]⟩
def zcs_d4:=(dQS zDGC4 (qAa zDGC1 (qAa (qEr 100 (qAa dB (qAa dNS (qAa dZ (qAa dB (qAa (dO 2) (qAa dB (qAa dS dNil)))))))) (qAa (dRow .i64 3) dNil))))
def zcs_l4:SubQ:=mkL zcs_d4 (fun x=>zcs_p4 x.1.1 x.1.2.2.2.1 x.1.2.2.2.2.1 x.2.2.1.2.2.1) fun x r R kn kx kr=>kr ⟨[sL 2 (.hd 0 0),sL 3 (.vB r.1)],[],[.cells 100 [.vB x.2.2.1.1,.own 1,.vI r.2.1,.vB x.2.2.1.2.2.2.1,.own 2,.vB x.2.2.1.2.2.2.2.2.1,.vS x.2.2.1.2.2.2.2.2.2.1],.row .i64 3 r.2.2,.row .i64 3 x.2.2.2.1]⟩
def zcs_d1:=(dQS zDGC4 zDGC6)
def zcs_l1:SubQ:=mkL zcs_d1 (fun x=>zcs_p1 x.1.1 x.1.2.2.2.1 x.1.2.2.2.2.1 x.2.2.1.2.2.1 x.2.2.1.2.2.2.1 x.2.2.1.2.2.2.2.2.1) fun x r R kn kx kr=>kr ⟨[sL 2 (.hd 0 0),sL 3 (.vB r.1)],[],[.cells 100 [.vB x.2.2.1.1,.own 1,.vI r.2.1,.vB r.2.2.1,.own 2,.vB r.2.2.2.1,.vS x.2.2.1.2.2.2.2.2.2.1],.row .i64 3 r.2.2.2.2.1,.row .i64 3 r.2.2.2.2.2]⟩
def zcs_d0:=(dQS (qAa (dSO 0 dS) (qAa (dSO 2 (dH 0 0)) (qAa (dSO 4 (dH 1 0)) (qAa (dSO 5 dZ) dNil)))) zDGC6)
def zcs_l0:SubQ:=mkL zcs_d0 (fun x=>zcs_p0 x.1.1 x.1.2.2.2.1 x.2.2.1.2.2.1 x.2.2.1.2.2.2.1 x.2.2.1.2.2.2.2.2.1 x.2.2.1.2.2.2.2.2.2.1) fun x r R kn kx kr=>kr ⟨[sL 2 (.hd 0 0),sL 3 (.vB r.1)],[],[.cells 100 [.vB x.2.2.1.1,.own 1,.vI r.2.1,.vB r.2.2.1,.own 2,.vB r.2.2.2.1,.vS r.2.2.2.2.1],.row .i64 3 r.2.2.2.2.2.1,.row .i64 3 r.2.2.2.2.2.2]⟩
def zcs_L:Nat→SubQ:=tblL [(3,zcs_l3),(2,zcs_l2),(5,zcs_l5),(6,zcs_l6),(4,zcs_l4),(1,zcs_l1),(0,zcs_l0)]
theorem zcs_sub3:qA0 zcs_L zcs_G 0 13 222 3 zcs_b3:=qAp (show zcs_L 3=zcs_l3 from by kernel_rfl) fun x R kn kx kr=>qAm (step:=fun y=>zcs_p3_step x.1.1 x.1.2.2.2.2.1 y.1 y.2) (enc:=fun (y:Int × (List Int))=>zcs_d3.e ((x.1.1,x.1.2.1,x.1.2.2.1,x.1.2.2.2.1,x.1.2.2.2.2.1,y.1,x.1.2.2.2.2.2.2),(x.2.1,x.2.2.1,y.2,x.2.2.2.2))) (fun y=>by kernel_rfl) (fun y ki=>by simp only [zcs_p3_step,-eq_self,qAc,qAe,obA,obS,slL,slR,qAd]; kernel_rfl) (x.1.2.2.2.2.2.1,x.2.2.2.1)
theorem zcs_sub2:qA0 zcs_L zcs_G 0 13 222 2 zcs_b2:=qAp (show zcs_L 2=zcs_l2 from by kernel_rfl) fun x R kn kx kr=>by
 simp only [zcs_p2,-eq_self,qAc,qAe,obA,obS,slL,slR,qAd];kernel_rfl
theorem zcs_sub5:qA0 zcs_L zcs_G 0 13 222 5 zcs_b5:=qAp (show zcs_L 5=zcs_l5 from by kernel_rfl) fun x R kn kx kr=>qAm (step:=fun y=>zcs_p5_step x.1.2.2.1 y.1 y.2.1 y.2.2) (enc:=fun (y:Int × Int × (List Int))=>zcs_d5.e ((x.1.1,x.1.2.1,x.1.2.2.1,y.1,x.1.2.2.2.2),(x.2.1,(x.2.2.1.1,x.2.2.1.2.1,y.2.1,x.2.2.1.2.2.2),y.2.2,x.2.2.2.2))) (fun y=>by kernel_rfl) (fun y ki=>by simp only [zcs_p5_step,-eq_self,qAc,qAe,obA,obS,slL,slR,qAd]; kernel_rfl) (x.1.2.2.2.1,x.2.2.1.2.2.1,x.2.2.2.1)
theorem zcs_sub6:qA0 zcs_L zcs_G 0 13 222 6 zcs_b6:=qAp (show zcs_L 6=zcs_l6 from by kernel_rfl) fun x R kn kx kr=>qAm (step:=fun y=>zcs_p6_step y) (enc:=fun (y:(List Int))=>zcs_d6.e (x.1,(x.2.1,x.2.2.1,y,x.2.2.2.2))) (fun y=>by kernel_rfl) (fun y ki=>by simp only [zcs_p6_step,-eq_self,qAc,qAe,obA,obS,slL,slR,qAd]; kernel_rfl) x.2.2.2.1
theorem zcs_sub4:qA0 zcs_L zcs_G 0 13 222 4 zcs_b4:=qAp (show zcs_L 4=zcs_l4 from by kernel_rfl) fun x R kn kx kr=>by
 simp only [zcs_p4,-eq_self,qAc,qAe,obA,obS,slL,slR,qAd];kernel_rfl
theorem zcs_sub1:qA0 zcs_L zcs_G 0 13 222 1 zcs_b1:=qAp (show zcs_L 1=zcs_l1 from by kernel_rfl) fun x R kn kx kr=>by
 simp only [zcs_p1,-eq_self,qAc,qAe,obA,obS,slL,slR,qAd];kernel_rfl
theorem zcs_sub0:qA0 zcs_L zcs_G 0 13 222 0 zcs_b0:=qAp (show zcs_L 0=zcs_l0 from by kernel_rfl) fun x R kn kx kr=>by
 simp only [zcs_p0,-eq_self,qAc,qAe,obA,obS,slL,slR,qAd];kernel_rfl
def zcs_c:CS:=mkC (qAa (dVC (dCO dS)) dNil) dNil (fun x y=>zcs_s x.1) (fun x y r=>.tup [.agg [.vB r.1.minus,.own 0,.vI r.1.off,.vB r.1.down,.own 1,.vB r.1.plain,.vS r.1.text],.o (.vB r.2)]) fun x y r=>[.row .i64 3 r.1.digits,.row .i64 3 r.1.exp_]
theorem zcs_val:qAj Tryz.prog 85 zcs_c:=vl1 zcs_q [.cell 2 (some 7),.tmp 3] 222 13 0 (show qAu zcs_L zcs_G 0 13 222 [(0,zcs_b0),(1,zcs_b1),(2,zcs_b2),(3,zcs_b3),(4,zcs_b4),(5,zcs_b5),(6,zcs_b6)] from ⟨zcs_sub0,zcs_sub1,zcs_sub2,zcs_sub3,zcs_sub4,zcs_sub5,zcs_sub6,tV⟩) (qAl ⟨zcv_ok,tV⟩) fun x y=>by
 simp only [zcs_s,-eq_self,qAc,qAe,obA,obS,slL,slR,qAd];kernel_rfl
def zcs_w:CQ:=qBs [] zcs_c
theorem zcs_ok:qAg Tryz.prog 85 zcs_w:=qB3 zcs_val
def zct_q:IQ:=(.seq (rg 2 [oP 2 (.mv vF)]) (.seq (rg 4 [oM 6 t0,oP 7 (.call 85 [t6]),oM 5 t7,oP 8 (.extract t5 0),oP 9 (.extract t5 1),oP 3 (.alloc 100 [.bool false,.slice none 0 0,.int .i64 0,.bool false,.slice none 0 0,.bool false,.string ⟨#[]⟩]),oN (.store 7 t3 t8),oM 4 t9]) (.seq (rg 2 [oM 10 t4,oM 2 t10]) (.cn [2] .ret))))
def zct_s (text:BA):Option Bool :=
 (zcs_s text).bind fun r1 =>
 some r1.2
def zct_c:CS:=mkC (qAa (dVC (dCO dS)) dNil) dNil (fun x y=>zct_s x.1) (fun x y r=>.c (.o (.vB r))) fun x y r=>[]
theorem zct_val:qAj Tryz.prog 67 zct_c:=vl0 zct_q [.tmp 2] 11 5 0 [(85,zcs_w)] ⟨zcs_ok,tV⟩ fun x y=>by
 simp only [zct_s,-eq_self,qAc,qAe,obA,obS,slL,slR,qAd];kernel_rfl
def zct_w:CQ:=qCl [] zct_c
theorem zct_ok:qAg Tryz.prog 67 zct_w:=qAn zct_val
end
end Go.Proofs.YtpobbbpphnnnhaaGreatDoor
