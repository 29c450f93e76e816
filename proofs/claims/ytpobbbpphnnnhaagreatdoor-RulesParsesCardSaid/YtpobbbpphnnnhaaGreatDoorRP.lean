/-
  Functions as the engine reads them (printed by gen.py).
-/
import Derived.Test.YtpobbbpphnnnhaaGreatDoorEngPan
import Derived.Test.YtpobbbpphnnnhaaGreatDoorProg
import Derived.Test.YtpobbbpphnnnhaaGreatDoorJS
import Derived.Test.YtpobbbpphnnnhaaGreatDoorGC
import Derived.Test.YtpobbbpphnnnhaaGreatDoorJP
import Derived.Test.YtpobbbpphnnnhaaGreatDoorJQ
namespace Go.Proofs.YtpobbbpphnnnhaaGreatDoor
open Go.Eng
set_option linter.unusedVariables false
set_option linter.unusedSimpArgs false
set_option maxRecDepth 100000
noncomputable section
abbrev qAk:List NK:=[.int .i64,.int .i64,.int .i64,.rw .str,.int .i64,.str]
abbrev qAt:Type:=List (Int × Int × Int × (List BA) × Int × BA × Unit)
structure rules_parser where
 text:BA
 at_:Int
 open_:Int
 out:qAt
structure qHq where
 op:Int
 a:Int
 b:Int
 path:(List BA)
 value:Int
 text:BA
structure qHl where
 text:BA
 at_:Int
 out:qAt
 open_:Int
 err:Int
 bad:Int
def zaf_q:IQ:=(.seq (rg 4 [oP 4 (.mv (vI 0))]) (.seq (rg 4 [oM 5 t0,oM 6 t1,oP 7 (.ext .idxByte [t5,t6]),oM 4 t7]) (.cn [4] .ret)))
def zaf_s (s:BA) (c:Int):Option Int :=
 some (Lib.indexByte s.data.toList (Int.toNat c).toUInt8)
def zDRP14:=(qAa (dVC (dCO (dI .u8))) dNil)
def zaf_c:CS:=mkC (qAa (dVC (dCO dS)) zDRP14) dNil (fun x y=>zaf_s x.1 x.2.1) (fun x y r=>.c (.o (.vI r))) fun x y r=>[]
theorem zaf_val:qAj Tryz.prog 24 zaf_c:=vl0 zaf_q [.tmp 4] 8 5 0 [] trivial fun x y=>by
 simp only [zaf_s,-eq_self,qAc,qAe,obA,obS,slL,slR,qAd];kernel_rfl
def zaf_w:CQ:=qCl [] zaf_c
theorem zaf_ok:qAg Tryz.prog 24 zaf_w:=qAn zaf_val
def zdm_q:IQ:=(.seq (rg 4 [oP 4 (.mv (vI 0))]) (.seq (rg 4 [oM 5 t0,oM 6 t1,oP 7 (.call 24 [t5,t6]),oM 4 t7]) (.cn [4] .ret)))
def zdm_s (s:BA) (c:Int):Option Int :=
 (zaf_s s c).bind fun r1 =>
 some r1
def zdm_c:CS:=mkC (qAa (dVC (dCO dS)) zDRP14) dNil (fun x y=>zdm_s x.1 x.2.1) (fun x y r=>.c (.o (.vI r))) fun x y r=>[]
theorem zdm_val:qAj Tryz.prog 18 zdm_c:=vl0 zdm_q [.tmp 4] 8 5 0 [(24,zaf_w)] ⟨zaf_ok,tV⟩ fun x y=>by
 simp only [zdm_s,-eq_self,qAc,qAe,obA,obS,slL,slR,qAd];kernel_rfl
def zdm_w:CQ:=qCl [] zdm_c
theorem zdm_ok:qAg Tryz.prog 18 zdm_w:=qAn zdm_val
def zaw_q:IQ:=(.seq (rg 2 [oP 2 (.mv vF)]) (.seq (rg 2 [oM 3 t0,oP 4 (.bi .geq t3 (vC 97)),oM 5 t4,oF 6 (.mv t0) 5,oF 7 (.bi .leq t6 (vC 122)) 5,oP 8 (.pick t5 t7 vF),oM 9 t8,oE 10 (.mv t0) 9,oE 11 (.bi .geq t10 (vC 65)) 9,oE 12 (.mv t11) 9,oF 13 (.mv t0) 12,oF 14 (.bi .leq t13 (vC 90)) 12,oE 15 (.pick t12 t14 vF) 9,oP 16 (.pick t9 vT t15),oM 17 t16,oE 18 (.mv t0) 17,oE 19 (.bi .eql t18 (vC 95)) 17,oP 20 (.pick t17 vT t19),oM 2 t20]) (.cn [2] .ret)))
def zaw_s (c:Int):Option Bool :=
 some ((((decide ((97:Int)≤c)) && (decide (c≤(122:Int)))) || ((decide ((65:Int)≤c)) && (decide (c≤(90:Int))))) || (decide (c=(95:Int))))
def zaw_c:CS:=mkC (qAa (dVC (dCO (dI .u8))) dNil) dNil (fun x y=>zaw_s x.1) (fun x y r=>.c (.o (.vB r))) fun x y r=>[]
theorem zaw_val:qAj Tryz.prog 19 zaw_c:=vl0 zaw_q [.tmp 2] 21 3 0 [] trivial fun x y=>by
 simp only [zaw_s,-eq_self,qAc,qAe,obA,obS,slL,slR,qAd];kernel_rfl
def zaw_w:CQ:=qCl [] zaw_c
theorem zaw_ok:qAg Tryz.prog 19 zaw_w:=qAn zaw_val
def zav_q:IQ:=(.seq (rg 2 [oP 2 (.mv vF)]) (.seq (rg 2 [oM 3 t0,oP 4 (.bi .geq t3 (vC 48)),oM 5 t4,oF 6 (.mv t0) 5,oF 7 (.bi .leq t6 (vC 57)) 5,oP 8 (.pick t5 t7 vF),oM 2 t8]) (.cn [2] .ret)))
def zav_s (c:Int):Option Bool :=
 some ((decide ((48:Int)≤c)) && (decide (c≤(57:Int))))
def zav_c:CS:=mkC (qAa (dVC (dCO (dI .u8))) dNil) dNil (fun x y=>zav_s x.1) (fun x y r=>.c (.o (.vB r))) fun x y r=>[]
theorem zav_val:qAj Tryz.prog 20 zav_c:=vl0 zav_q [.tmp 2] 9 3 0 [] trivial fun x y=>by
 simp only [zav_s,-eq_self,qAc,qAe,obA,obS,slL,slR,qAd];kernel_rfl
def zav_w:CQ:=qCl [] zav_c
theorem zav_ok:qAg Tryz.prog 20 zav_w:=qAn zav_val
def zbf_b0:IQ:=(.loop [0] (.seq (.seq (.reg 26 (some [0,1,2,3,4,5,6,7,8,9,10,11,12,13,14,15,16,17,18,19,20,21,22]) (rF 4 t0 1++rF 8 t0 0++[oP 12 (.lenS t11),oP 13 (.bi .lss t7 t12),oM 14 t13]++rH oF 15 t0 0 14++rH oF 19 t0 1 14++[oF 23 (.index t18 t22) 14,oF 24 (.call 18 [(.v (.string ⟨#[32,9,10,13]⟩)),t23]) 14,oF 25 (.bi .geq t24 (vI 0)) 14,oP 26 (.pick t14 t25 vF)])) (.cond t26 .skip (.cn [0] (.exit 0)))) (.block 1 (rg 0 (rF 27 t0 1++[oP 31 (.bi .add t30 (vI 1))]++rS 32 t27 1 t31)))))
def zbf_q:IQ:=(.seq (rg 2 [oP 2 (.mv (vI 0))]) (.seq (.block 0 (.cn [0] (.sub 0 zbf_b0))) (.seq (.seq (.reg 43 (some [0,1,2,3,4,5,6,7,8,9]) (rF 34 t0 1++rF 38 t0 0++[oP 42 (.lenS t41),oP 43 (.bi .eql t37 t42)])) (.cond t43 (.seq (rg 2 [oP 2 (.mv (vI 0))]) (.cn [2] .ret)) .skip)) (.seq (.seq (.reg 3 (some [0,1,2,3,4,5,6,7,8,9]) (rF 44 t0 0++rF 48 t0 1++[oP 52 (.index t47 t51),oM 3 t52])) (.block 2 (.seq (rg 53 [oM 54 t3,oP 55 (.call 19 [t54]),oM 53 t55]) (.cond t53 (.seq (rg 2 [oP 2 (.mv (vI 1))]) (.cn [2] .ret)) (.seq (rg 56 [oM 57 t3,oP 58 (.call 20 [t57]),oM 56 t58]) (.cond t56 (.seq (rg 2 [oP 2 (.mv (vI 2))]) (.cn [2] .ret)) (.seq (rg 59 [oM 60 t3,oP 61 (.bi .eql t60 (vC 34)),oM 59 t61]) (.cond t59 (.seq (rg 2 [oP 2 (.mv (vI 3))]) (.cn [2] .ret)) (.seq (rg 62 [oM 63 t3,oP 64 (.call 18 [(.v (.string ⟨#[40,41,46,61,33,60,62,45]⟩)),t63]),oP 65 (.bi .geq t64 (vI 0)),oM 62 t65]) (.cond t62 (.seq (rg 2 [oP 2 (.mv (vI 4))]) (.cn [2] .ret)) .skip)))))))))) (.seq (rg 2 [oP 2 (.mv (vI 5))]) (.cn [2] .ret))))))
def qFz (p_text:BA) (p_at:Int):Option (Int ⊕ Int) :=
 gd ((decide (p_at<(p_text.size:Int)))=true→0≤p_at∧p_at<p_text.size) <|
 (zdm_s (⟨#[32,9,10,13]⟩:BA) (bAt p_text p_at)).bind fun r4 =>
 bif ((decide (p_at<(p_text.size:Int))) && (decide ((0:Int)≤r4))) then (
  gd (qAf (p_at+(1:Int))) <|
  some (.inl (p_at+(1:Int))))
 else (
  some (.inr p_at))
def zbf_p0 (p_text:BA) (p_at:Int):Option Int :=
 qAw (fun x:Int=>qFz p_text x) p_at
def zbf_s (p:rules_parser):Option (rules_parser × Int) :=
 (zbf_p0 p.text p.at_).bind fun o5 =>
 bif decide (o5=(p.text.size:Int)) then (
  some ({p with at_:=o5:rules_parser},(0:Int)))
 else (
  gd (0≤o5∧o5<p.text.size) <|
  (zaw_s (bAt p.text o5)).bind fun r6 =>
  bif r6 then (
   some ({p with at_:=o5:rules_parser},(1:Int)))
  else (
   (zav_s (bAt p.text o5)).bind fun r7 =>
   bif r7 then (
    some ({p with at_:=o5:rules_parser},(2:Int)))
   else (
    bif decide ((bAt p.text o5)=(34:Int)) then (
     some ({p with at_:=o5:rules_parser},(3:Int)))
    else (
     (zdm_s (⟨#[40,41,46,61,33,60,62,45]⟩:BA) (bAt p.text o5)).bind fun r8 =>
     bif decide ((0:Int)≤r8) then (
      some ({p with at_:=o5:rules_parser},(4:Int)))
     else (
      some ({p with at_:=o5:rules_parser},(5:Int)))))))
def zbf_G:Nat→Option CQ:=tblQ [(18,zdm_w),(19,zaw_w),(20,zav_w)]
def qB8:=(dBag qAk 44)
def qG3:=(qEr 33 (qAa dS (qAa dZ (qAa dZ (qAa (dBsl 1) dNil)))))
def zDRP10:=(qAa qG3 (qAa qB8 dNil))
def zbf_d0:=(dQS (qAa (dSO 0 (dH 0 0)) dNil) zDRP10)
def zbf_l0:SubQ:=mkL zbf_d0 (fun x=>zbf_p0 x.2.1.1 x.2.1.2.1) fun x r R kn kx kr=>kx 0 ⟨[sL 0 (.hd 0 0)],[],[.cells 33 [.vS x.2.1.1,.vI r,.vI x.2.1.2.2.1,.bsl 1],.bag qAk 44 x.2.2.1]⟩
def zbf_L:Nat→SubQ:=tblL [(0,zbf_l0)]
theorem zbf_sub0:qA0 zbf_L zbf_G 2 4 66 0 zbf_b0:=qAp (show zbf_L 0=zbf_l0 from by kernel_rfl) fun x R kn kx kr=>qAm (step:=fun y=>qFz x.2.1.1 y) (enc:=fun (y:Int)=>zbf_d0.e (x.1,((x.2.1.1,y,x.2.1.2.2),x.2.2))) (fun y=>by kernel_rfl) (fun y ki=>by simp only [qFz,-eq_self,qAc,qAe,obA,obS,slL,slR,qAd]; kernel_rfl) x.2.1.2.1
def zbf_c:CS:=mkC (qAa (dVC (dCO (dH 0 0))) dNil) (qAa qG3 (qAa qB8 dNil)) (fun x y=>zbf_s (⟨y.1.1,y.1.2.1,y.1.2.2.1,y.2.1⟩:rules_parser)) (fun x y r=>.c (.o (.vI r.2))) fun x y r=>[.cells 33 [.vS r.1.text,.vI r.1.at_,.vI r.1.open_,.bsl 1],.bag qAk 44 r.1.out]
theorem zbf_val:qAj Tryz.prog 9 zbf_c:=vl1 zbf_q [.tmp 2] 66 4 2 (show qAu zbf_L zbf_G 2 4 66 [(0,zbf_b0)] from ⟨zbf_sub0,tV⟩) (qAl ⟨zdm_ok,zaw_ok,zav_ok,tV⟩) fun x y=>by
 simp only [zbf_s,-eq_self,qAc,qAe,obA,obS,slL,slR,qAd];kernel_rfl
def zbf_w:CQ:=qBh [(0,some 3,some ((.bag qAk),44))] (qBs [true,true] zbf_c)
theorem zbf_ok:qAg Tryz.prog 9 zbf_w:=qAs zbf_val
def zbe_q:IQ:=(.seq (rg 2 [oP 2 (.mv vF)]) (.seq (rg 2 [oM 3 t0,oP 4 (.call 19 [t3]),oM 5 t4,oE 6 (.mv t0) 5,oE 7 (.call 20 [t6]) 5,oP 8 (.pick t5 vT t7),oM 2 t8]) (.cn [2] .ret)))
def zbe_s (c:Int):Option Bool :=
 (zaw_s c).bind fun r1 =>
 bif r1 then (
  some true)
 else (
  (zav_s c).bind fun r2 =>
  some r2)
def zbe_c:CS:=mkC (qAa (dVC (dCO (dI .u8))) dNil) dNil (fun x y=>zbe_s x.1) (fun x y r=>.c (.o (.vB r))) fun x y r=>[]
theorem zbe_val:qAj Tryz.prog 34 zbe_c:=vl0 zbe_q [.tmp 2] 9 3 0 [(19,zaw_w),(20,zav_w)] ⟨zaw_ok,zav_ok,tV⟩ fun x y=>by
 simp only [zbe_s,-eq_self,qAc,qAe,obA,obS,slL,slR,qAd];kernel_rfl
def zbe_w:CQ:=qCl [] zbe_c
theorem zbe_ok:qAg Tryz.prog 34 zbe_w:=qAn zbe_val
def zbr_q:IQ:=(.seq (rg 2 [oP 2 (.mv vF)]) (.seq (rg 2 [oM 3 t0,oP 4 (.call 20 [t3]),oM 5 t4,oE 6 (.mv t0) 5,oE 7 (.call 18 [(.v (.string ⟨#[43,45,46,101,69]⟩)),t6]) 5,oE 8 (.bi .geq t7 (vI 0)) 5,oP 9 (.pick t5 vT t8),oM 2 t9]) (.cn [2] .ret)))
def zbr_s (c:Int):Option Bool :=
 (zav_s c).bind fun r1 =>
 bif r1 then (
  some true)
 else (
  (zdm_s (⟨#[43,45,46,101,69]⟩:BA) c).bind fun r2 =>
  some (decide ((0:Int)≤r2)))
def zbr_c:CS:=mkC (qAa (dVC (dCO (dI .u8))) dNil) dNil (fun x y=>zbr_s x.1) (fun x y r=>.c (.o (.vB r))) fun x y r=>[]
theorem zbr_val:qAj Tryz.prog 44 zbr_c:=vl0 zbr_q [.tmp 2] 10 3 0 [(20,zav_w),(18,zdm_w)] ⟨zav_ok,zdm_ok,tV⟩ fun x y=>by
 simp only [zbr_s,-eq_self,qAc,qAe,obA,obS,slL,slR,qAd];kernel_rfl
def zbr_w:CQ:=qCl [] zbr_c
theorem zbr_ok:qAg Tryz.prog 44 zbr_w:=qAn zbr_val
def zbm_b0:IQ:=(.loop [0,1,5] (.seq (.seq (rg 26 ([oM 10 t5]++rF 11 t0 0++[oP 15 (.lenS t14),oP 16 (.bi .lss t10 t15),oM 17 t16,oF 18 (.mv t1) 17]++rH oF 19 t0 0 17++[oF 23 (.mv t5) 17,oF 24 (.index t22 t23) 17,oF 25 (.callV t18 [t24]) 17,oP 26 (.pick t17 t25 vF)])) (.cond t26 .skip (.cn [0,5] (.exit 0)))) (.block 1 (rg 5 [oM 27 t5,oP 28 (.bi .add t27 (vI 1)),oM 5 t28]))))
def zbm_q:IQ:=(.seq (rg 4 [oP 4 (.mv (.v (.string ⟨#[]⟩)))]) (.seq (rg 5 (rF 6 t0 1++[oM 5 t9])) (.seq (.block 0 (.cn [0,1,5] (.sub 0 zbm_b0))) (.seq (.reg 4 (some [0,1,2,3,4,5,6,7,8,9,10]) (rF 29 t0 0++rF 33 t0 1++[oM 37 t5,oP 38 (.sub none t32 (some t36) (some t37)),oM 4 t38])) (.cn [4] .ret)))))
def qF0 (end_:Int) (p_text:BA):Option (Int ⊕ Int) :=
 gd ((decide (end_<(p_text.size:Int)))=true→0≤end_∧end_<p_text.size) <|
 bif decide (end_<(p_text.size:Int)) then (
  (zav_s (bAt p_text end_)).bind fun r2 =>
  bif r2 then (
   gd (qAf (end_+(1:Int))) <|
   some (.inl (end_+(1:Int))))
  else (
   some (.inr end_)))
 else (
  some (.inr end_))
def zbm_p0 (end_:Int) (p_text:BA):Option Int :=
 qAw (fun x:Int=>qF0 x p_text) end_
def zbm_s (p:rules_parser) (is:Unit):Option BA :=
 (zbm_p0 p.at_ p.text).bind fun o3 =>
 gd (0≤p.at_∧p.at_≤o3∧o3≤p.text.size) <|
 some (p.text.extract (Int.toNat p.at_) (Int.toNat o3))
def zbm_G:Nat→Option CQ:=tblQ [(20,(toInl zav_w))]
def zbm_d0:=(dQS (qAa (dSO 0 (dH 0 0)) (qAa (dSO 1 (dFn 20)) (qAa (dSO 5 dZ) dNil))) zDRP10)
def zbm_l0:SubQ:=mkL zbm_d0 (fun x=>zbm_p0 x.1.2.2.1 x.2.1.1) fun x r R kn kx kr=>kx 0 ⟨[sL 0 (.hd 0 0),sL 5 (.vI r)],[],[.cells 33 [.vS x.2.1.1,.vI x.2.1.2.1,.vI x.2.1.2.2.1,.bsl 1],.bag qAk 44 x.2.2.1]⟩
def zbm_L:Nat→SubQ:=tblL [(0,zbm_l0)]
theorem zbm_sub0:qA0 zbm_L zbm_G 2 6 39 0 zbm_b0:=qAp (show zbm_L 0=zbm_l0 from by kernel_rfl) fun x R kn kx kr=>qAm (step:=fun y=>qF0 y x.2.1.1) (enc:=fun (y:Int)=>zbm_d0.e ((x.1.1,x.1.2.1,y,x.1.2.2.2),x.2)) (fun y=>by kernel_rfl) (fun y ki=>by simp only [qF0,-eq_self,qAc,qAe,obA,obS,slL,slR,qAd]; kernel_rfl) x.1.2.2.1
def zbm_c:CS:=mkC (qAa (dVC (dCO (dH 0 0))) (qAa (dVC (dCO (dFn 20))) dNil)) (qAa qG3 (qAa qB8 dNil)) (fun x y=>zbm_s (⟨y.1.1,y.1.2.1,y.1.2.2.1,y.2.1⟩:rules_parser) ()) (fun x y r=>.c (.o (.vS r))) fun x y r=>[.cells 33 [.vS y.1.1,.vI y.1.2.1,.vI y.1.2.2.1,.bsl 1],.bag qAk 44 y.2.1]
theorem zbm_val:qAj Tryz.prog 33 zbm_c:=vl1 zbm_q [.tmp 4] 39 6 2 (show qAu zbm_L zbm_G 2 6 39 [(0,zbm_b0)] from ⟨zbm_sub0,tV⟩) (qAl ⟨(toInl_valid (by kernel_rfl) zav_ok),tV⟩) fun x y=>by
 simp only [zbm_s,-eq_self,qAc,qAe,obA,obS,slL,slR,qAd];kernel_rfl
def zbm_w:CQ:=qBh [(0,some 3,some ((.bag qAk),44))] (qBs [true,true] zbm_c)
theorem zbm_ok:qAg Tryz.prog 33 zbm_w:=qAs zbm_val
def zbn_b0:IQ:=(.loop [0,1,5] (.seq (.seq (rg 26 ([oM 10 t5]++rF 11 t0 0++[oP 15 (.lenS t14),oP 16 (.bi .lss t10 t15),oM 17 t16,oF 18 (.mv t1) 17]++rH oF 19 t0 0 17++[oF 23 (.mv t5) 17,oF 24 (.index t22 t23) 17,oF 25 (.callV t18 [t24]) 17,oP 26 (.pick t17 t25 vF)])) (.cond t26 .skip (.cn [0,5] (.exit 0)))) (.block 1 (rg 5 [oM 27 t5,oP 28 (.bi .add t27 (vI 1)),oM 5 t28]))))
def zbn_q:IQ:=(.seq (rg 4 [oP 4 (.mv (.v (.string ⟨#[]⟩)))]) (.seq (rg 5 (rF 6 t0 1++[oM 5 t9])) (.seq (.block 0 (.cn [0,1,5] (.sub 0 zbn_b0))) (.seq (.reg 4 (some [0,1,2,3,4,5,6,7,8,9,10]) (rF 29 t0 0++rF 33 t0 1++[oM 37 t5,oP 38 (.sub none t32 (some t36) (some t37)),oM 4 t38])) (.cn [4] .ret)))))
def qF1 (end_:Int) (p_text:BA):Option (Int ⊕ Int) :=
 gd ((decide (end_<(p_text.size:Int)))=true→0≤end_∧end_<p_text.size) <|
 bif decide (end_<(p_text.size:Int)) then (
  (zbe_s (bAt p_text end_)).bind fun r2 =>
  bif r2 then (
   gd (qAf (end_+(1:Int))) <|
   some (.inl (end_+(1:Int))))
  else (
   some (.inr end_)))
 else (
  some (.inr end_))
def zbn_p0 (end_:Int) (p_text:BA):Option Int :=
 qAw (fun x:Int=>qF1 x p_text) end_
def zbn_s (p:rules_parser) (is:Unit):Option BA :=
 (zbn_p0 p.at_ p.text).bind fun o3 =>
 gd (0≤p.at_∧p.at_≤o3∧o3≤p.text.size) <|
 some (p.text.extract (Int.toNat p.at_) (Int.toNat o3))
def zbn_G:Nat→Option CQ:=tblQ [(34,(toInl zbe_w))]
def zbn_d0:=(dQS (qAa (dSO 0 (dH 0 0)) (qAa (dSO 1 (dFn 34)) (qAa (dSO 5 dZ) dNil))) zDRP10)
def zbn_l0:SubQ:=mkL zbn_d0 (fun x=>zbn_p0 x.1.2.2.1 x.2.1.1) fun x r R kn kx kr=>kx 0 ⟨[sL 0 (.hd 0 0),sL 5 (.vI r)],[],[.cells 33 [.vS x.2.1.1,.vI x.2.1.2.1,.vI x.2.1.2.2.1,.bsl 1],.bag qAk 44 x.2.2.1]⟩
def zbn_L:Nat→SubQ:=tblL [(0,zbn_l0)]
theorem zbn_sub0:qA0 zbn_L zbn_G 2 6 39 0 zbn_b0:=qAp (show zbn_L 0=zbn_l0 from by kernel_rfl) fun x R kn kx kr=>qAm (step:=fun y=>qF1 y x.2.1.1) (enc:=fun (y:Int)=>zbn_d0.e ((x.1.1,x.1.2.1,y,x.1.2.2.2),x.2)) (fun y=>by kernel_rfl) (fun y ki=>by simp only [qF1,-eq_self,qAc,qAe,obA,obS,slL,slR,qAd]; kernel_rfl) x.1.2.2.1
def zbn_c:CS:=mkC (qAa (dVC (dCO (dH 0 0))) (qAa (dVC (dCO (dFn 34))) dNil)) (qAa qG3 (qAa qB8 dNil)) (fun x y=>zbn_s (⟨y.1.1,y.1.2.1,y.1.2.2.1,y.2.1⟩:rules_parser) ()) (fun x y r=>.c (.o (.vS r))) fun x y r=>[.cells 33 [.vS y.1.1,.vI y.1.2.1,.vI y.1.2.2.1,.bsl 1],.bag qAk 44 y.2.1]
theorem zbn_val:qAj Tryz.prog 33 zbn_c:=vl1 zbn_q [.tmp 4] 39 6 2 (show qAu zbn_L zbn_G 2 6 39 [(0,zbn_b0)] from ⟨zbn_sub0,tV⟩) (qAl ⟨(toInl_valid (by kernel_rfl) zbe_ok),tV⟩) fun x y=>by
 simp only [zbn_s,-eq_self,qAc,qAe,obA,obS,slL,slR,qAd];kernel_rfl
def zbn_w:CQ:=qBh [(0,some 3,some ((.bag qAk),44))] (qBs [true,true] zbn_c)
theorem zbn_ok:qAg Tryz.prog 33 zbn_w:=qAs zbn_val
def zbo_b0:IQ:=(.loop [0,1,5] (.seq (.seq (rg 26 ([oM 10 t5]++rF 11 t0 0++[oP 15 (.lenS t14),oP 16 (.bi .lss t10 t15),oM 17 t16,oF 18 (.mv t1) 17]++rH oF 19 t0 0 17++[oF 23 (.mv t5) 17,oF 24 (.index t22 t23) 17,oF 25 (.callV t18 [t24]) 17,oP 26 (.pick t17 t25 vF)])) (.cond t26 .skip (.cn [0,5] (.exit 0)))) (.block 1 (rg 5 [oM 27 t5,oP 28 (.bi .add t27 (vI 1)),oM 5 t28]))))
def zbo_q:IQ:=(.seq (rg 4 [oP 4 (.mv (.v (.string ⟨#[]⟩)))]) (.seq (rg 5 (rF 6 t0 1++[oM 5 t9])) (.seq (.block 0 (.cn [0,1,5] (.sub 0 zbo_b0))) (.seq (.reg 4 (some [0,1,2,3,4,5,6,7,8,9,10]) (rF 29 t0 0++rF 33 t0 1++[oM 37 t5,oP 38 (.sub none t32 (some t36) (some t37)),oM 4 t38])) (.cn [4] .ret)))))
def qF2 (end_:Int) (p_text:BA):Option (Int ⊕ Int) :=
 gd ((decide (end_<(p_text.size:Int)))=true→0≤end_∧end_<p_text.size) <|
 bif decide (end_<(p_text.size:Int)) then (
  (zbr_s (bAt p_text end_)).bind fun r2 =>
  bif r2 then (
   gd (qAf (end_+(1:Int))) <|
   some (.inl (end_+(1:Int))))
  else (
   some (.inr end_)))
 else (
  some (.inr end_))
def zbo_p0 (end_:Int) (p_text:BA):Option Int :=
 qAw (fun x:Int=>qF2 x p_text) end_
def zbo_s (p:rules_parser) (is:Unit):Option BA :=
 (zbo_p0 p.at_ p.text).bind fun o3 =>
 gd (0≤p.at_∧p.at_≤o3∧o3≤p.text.size) <|
 some (p.text.extract (Int.toNat p.at_) (Int.toNat o3))
def zbo_G:Nat→Option CQ:=tblQ [(44,(toInl zbr_w))]
def zbo_d0:=(dQS (qAa (dSO 0 (dH 0 0)) (qAa (dSO 1 (dFn 44)) (qAa (dSO 5 dZ) dNil))) zDRP10)
def zbo_l0:SubQ:=mkL zbo_d0 (fun x=>zbo_p0 x.1.2.2.1 x.2.1.1) fun x r R kn kx kr=>kx 0 ⟨[sL 0 (.hd 0 0),sL 5 (.vI r)],[],[.cells 33 [.vS x.2.1.1,.vI x.2.1.2.1,.vI x.2.1.2.2.1,.bsl 1],.bag qAk 44 x.2.2.1]⟩
def zbo_L:Nat→SubQ:=tblL [(0,zbo_l0)]
theorem zbo_sub0:qA0 zbo_L zbo_G 2 6 39 0 zbo_b0:=qAp (show zbo_L 0=zbo_l0 from by kernel_rfl) fun x R kn kx kr=>qAm (step:=fun y=>qF2 y x.2.1.1) (enc:=fun (y:Int)=>zbo_d0.e ((x.1.1,x.1.2.1,y,x.1.2.2.2),x.2)) (fun y=>by kernel_rfl) (fun y ki=>by simp only [qF2,-eq_self,qAc,qAe,obA,obS,slL,slR,qAd]; kernel_rfl) x.1.2.2.1
def zbo_c:CS:=mkC (qAa (dVC (dCO (dH 0 0))) (qAa (dVC (dCO (dFn 44))) dNil)) (qAa qG3 (qAa qB8 dNil)) (fun x y=>zbo_s (⟨y.1.1,y.1.2.1,y.1.2.2.1,y.2.1⟩:rules_parser) ()) (fun x y r=>.c (.o (.vS r))) fun x y r=>[.cells 33 [.vS y.1.1,.vI y.1.2.1,.vI y.1.2.2.1,.bsl 1],.bag qAk 44 y.2.1]
theorem zbo_val:qAj Tryz.prog 33 zbo_c:=vl1 zbo_q [.tmp 4] 39 6 2 (show qAu zbo_L zbo_G 2 6 39 [(0,zbo_b0)] from ⟨zbo_sub0,tV⟩) (qAl ⟨(toInl_valid (by kernel_rfl) zbr_ok),tV⟩) fun x y=>by
 simp only [zbo_s,-eq_self,qAc,qAe,obA,obS,slL,slR,qAd];kernel_rfl
def zbo_w:CQ:=qBh [(0,some 3,some ((.bag qAk),44))] (qBs [true,true] zbo_c)
theorem zbo_ok:qAg Tryz.prog 33 zbo_w:=qAs zbo_val
def zbd_q:IQ:=(.seq (rg 2 [oP 2 (.mv (.v (.string ⟨#[]⟩)))]) (.seq (rg 2 [oM 3 t0,oP 4 (.call 33 [t3,(.v (.func (.func 34) #[] #[]))]),oM 2 t4]) (.cn [2] .ret)))
def zbd_s (p:rules_parser):Option BA :=
 (zbn_s p ()).bind fun r1 =>
 some r1
def zbd_c:CS:=mkC (qAa (dVC (dCO (dH 0 0))) dNil) (qAa qG3 (qAa qB8 dNil)) (fun x y=>zbd_s (⟨y.1.1,y.1.2.1,y.1.2.2.1,y.2.1⟩:rules_parser)) (fun x y r=>.c (.o (.vS r))) fun x y r=>[.cells 33 [.vS y.1.1,.vI y.1.2.1,.vI y.1.2.2.1,.bsl 1],.bag qAk 44 y.2.1]
theorem zbd_val:qAj Tryz.prog 23 zbd_c:=vl0 zbd_q [.tmp 2] 5 3 2 [(33,zbn_w)] ⟨zbn_ok,tV⟩ fun x y=>by
 simp only [zbd_s,-eq_self,qAc,qAe,obA,obS,slL,slR,qAd];kernel_rfl
def zbd_w:CQ:=qBh [(0,some 3,some ((.bag qAk),44))] (qBs [true,true] zbd_c)
theorem zbd_ok:qAg Tryz.prog 23 zbd_w:=qAs zbd_val
def zbc_q:IQ:=(.seq (rg 4 [oP 4 (.mv vF)]) (.seq (.seq (rg 13 [oM 5 t0,oP 6 (.call 9 [t5]),oP 7 (.bi .neq t6 (vI 1)),oM 8 t7,oE 9 (.mv t0) 8,oE 10 (.call 23 [t9]) 8,oE 11 (.mv t1) 8,oE 12 (.bi .neq t10 t11) 8,oP 13 (.pick t8 vT t12)]) (.cond t13 (.seq (rg 4 [oP 4 (.mv vF)]) (.cn [4] .ret)) .skip)) (.seq (rg 0 (rF 14 t0 1++[oM 18 t1,oP 19 (.lenS t18),oP 20 (.bi .add t17 t19)]++rS 21 t14 1 t20)) (.seq (rg 4 [oP 4 (.mv vT)]) (.cn [4] .ret)))))
def zbc_s (p:rules_parser) (s:BA):Option (rules_parser × Bool) :=
 (zbf_s p).bind fun r2 =>
 bif (!decide (r2.2=(1:Int))) then (
  some (r2.1,false))
 else (
  (zbd_s r2.1).bind fun r3 =>
  bif (!decide (r3=s)) then (
   some (r2.1,false))
  else (
   gd (qAf (r2.1.at_+(s.size:Int))) <|
   some ({r2.1 with at_:=(r2.1.at_+(s.size:Int)):rules_parser},true)))
def zbc_c:CS:=mkC (qAa (dVC (dCO (dH 0 0))) (qAa (dVC (dCO dS)) dNil)) (qAa qG3 (qAa qB8 dNil)) (fun x y=>zbc_s (⟨y.1.1,y.1.2.1,y.1.2.2.1,y.2.1⟩:rules_parser) x.2.1) (fun x y r=>.c (.o (.vB r.2))) fun x y r=>[.cells 33 [.vS r.1.text,.vI r.1.at_,.vI r.1.open_,.bsl 1],.bag qAk 44 r.1.out]
theorem zbc_val:qAj Tryz.prog 16 zbc_c:=vl0 zbc_q [.tmp 4] 23 5 2 [(9,zbf_w),(23,zbd_w)] ⟨zbf_ok,zbd_ok,tV⟩ fun x y=>by
 simp only [zbc_s,-eq_self,qAc,qAe,obA,obS,slL,slR,qAd];kernel_rfl
def zbc_w:CQ:=qBh [(0,some 3,some ((.bag qAk),44))] (qBs [true,true] zbc_c)
theorem zbc_ok:qAg Tryz.prog 16 zbc_w:=qAs zbc_val
def zba_q:IQ:=(.join [] [] (.seq (.seq (rg 8 (rF 4 t0 2++[oP 8 (.bi .eql t7 (vI 32))])) (.cond t8 (rg 0 [oM 9 t1,oP 10 (.build [.int .i64 0,.int .i64 0] [(0,1,(vI 11)),(1,1,t9)]),oP 11 (.ext (.mkif 29) [t10]),oN (.panic t11)]) .skip)) (rg 0 (rF 12 t0 2++[oP 16 (.bi .add t15 (vI 1))]++rS 17 t12 2 t16))))
theorem zba_chk:chk Tryz.prog 28 []=some (zba_q.erase,[],19):=by kernel_rfl
def zba_s (p:rules_parser) (at_:Int):Option (rules_parser ⊕ PV) :=
 bif decide (p.open_=(32:Int)) then (
  some (.inr (29,.agg #[.int .i64 (11:Int),.int .i64 at_])))
 else (
  gd (qAf (p.open_+(1:Int))) <|
  some (.inl {p with open_:=(p.open_+(1:Int)):rules_parser}))
def zba_G:Nat→Option CQ:=tblQ []
theorem zba_Gok:∀f C,zba_G f=some C→qAg Tryz.prog f C:=fun f C h=>by cases h
def zba_L:Nat→SubQ:=tblL []
theorem zba_subs:qBp zba_L zba_G 2 4 19 zba_q:=qBt (show qAu zba_L zba_G 2 4 19 [] from tV)
def zba_c:CSP:=mkP (qAa (dVC (dCO (dH 0 0))) (qAa (dVC (dCO dZ)) dNil)) (qAa qG3 (qAa qB8 dNil)) (fun x y=>zba_s (⟨y.1.1,y.1.2.1,y.1.2.2.1,y.2.1⟩:rules_parser) x.2.1) (fun x y r=>.tup []) fun x y r=>[.cells 33 [.vS r.text,.vI r.at_,.vI r.open_,.bsl 1],.bag qAk 44 r.out]
theorem zba_val:qC8 Tryz.prog 28 zba_c:=qG1 zba_chk 4 zba_Gok 2 (fun x=>Nat.le_of_ble_eq_true rfl) (fun y=>rfl) zba_subs fun x y=>by
 simp only [zba_s,-eq_self,qAc,qAe,obA,obS,slL,slR,qAd];kernel_rfl
def zba_w:CQ:=qBh [(0,some 3,some ((.bag qAk),44))] (liftP false [true,true] zba_c)
theorem zba_ok:qAg Tryz.prog 28 zba_w:=qD5 zba_val
def zbg_q:IQ:=(.seq (rg 4 [oP 3 (.box 44 6 t1),oP 4 (.mv (vI 0))]) (.seq (.regT 0 (.one ⟨(some 5),.mv t0,none⟩ (.one ⟨(some 6),.mv t0,none⟩ (.one ⟨(some 7),.nk t6,none⟩ (.one ⟨(some 8),.faddr 3 t7,none⟩ (.one ⟨(some 10),.load (some 6) t3,none⟩ (.wk ⟨(some 9),.load none t8,none⟩ (.one ⟨(some 11),.bslice 44 6 1 [.int .i64 0,.int .i64 0,.int .i64 0,.slice none 0 0,.int .i64 0,.string ⟨#[]⟩] [(0,t10)],none⟩ (.one ⟨(some 12),.append 44 6 72 [.int .i64 0,.int .i64 0,.int .i64 0,.slice none 0 0,.int .i64 0,.string ⟨#[]⟩] t9 t11,none⟩ (.one ⟨(some 13),.nk t5,none⟩ (.one ⟨(some 14),.faddr 3 t13,none⟩ (.one ⟨none,.store 1 t14 t12,none⟩ .fin)))))))))))) (.seq (rg 4 (rF 15 t0 3++[oP 19 (.len t18),oP 20 (.bi .sub t19 (vI 1)),oM 4 t20])) (.cn [4] .ret))))
def zbg_s (p:rules_parser) (n:qHq):Option (rules_parser × Int) :=
 gd (p.out.length+([(n.op,n.a,n.b,n.path,n.value,n.text,())]:qAt).length≤9223372036854775807∧(p.out.length+([(n.op,n.a,n.b,n.path,n.value,n.text,())]:qAt).length)*72≤140737488355328) <|
 gd (qAf (((p.out++[(n.op,n.a,n.b,n.path,n.value,n.text,())]).length:Int) - (1:Int))) <|
 some ({p with out:=(p.out++[(n.op,n.a,n.b,n.path,n.value,n.text,())]):rules_parser},(((p.out++[(n.op,n.a,n.b,n.path,n.value,n.text,())]).length:Int) - (1:Int)))
def zDRP5:=(qEr 33 (qAa dS (qAa dZ (qAa dZ (qAa (dBsl 2) dNil)))))
def zbg_c:CS:=mkC (qAa (dVC (dCO (dH 0 0))) (qAa (dVC (dCA (qAa dZ (qAa dZ (qAa dZ (qAa (dO 1) (qAa dZ (qAa dS dNil)))))))) dNil)) (qAa zDRP5 (qAa (dRow .str 9) (qAa qB8 dNil))) (fun x y=>zbg_s (⟨y.1.1,y.1.2.1,y.1.2.2.1,y.2.2.1⟩:rules_parser) (⟨x.2.1.1,x.2.1.2.1,x.2.1.2.2.1,y.2.1,x.2.1.2.2.2.2.1,x.2.1.2.2.2.2.2.1⟩:qHq)) (fun x y r=>.c (.o (.vI r.2))) fun x y r=>[.cells 33 [.vS r.1.text,.vI r.1.at_,.vI r.1.open_,.bsl 3],.dead,.dead,.bag qAk 44 r.1.out]
theorem zbg_val:qAj Tryz.prog 17 zbg_c:=vl0 zbg_q [.tmp 4] 21 5 3 [] trivial fun x y=>by
 simp only [zbg_s,-eq_self,qAc,qAe,obA,obS,slL,slR,qAd];kernel_rfl
def zbg_w:CQ:=qBh [(0,some 3,some ((.bag qAk),44)),(1,some 3,some (.str,9))] (qBs [true,true,true] zbg_c)
theorem zbg_ok:qAg Tryz.prog 17 zbg_w:=qAs zbg_val
def zbb_q:IQ:=(rg 0 (rF 2 t0 1++[oP 6 (.build [.int .i64 0,.int .i64 0] [(0,1,(vI 180)),(1,1,t5)]),oP 7 (.ext (.mkif 29) [t6]),oN (.panic t7)]))
theorem zbb_chk:chk Tryz.prog 10 []=some (zbb_q.erase,[],8):=by kernel_rfl
def zbb_s (p:rules_parser):Option (Unit ⊕ PV) :=
 some (.inr (29,.agg #[.int .i64 (180:Int),.int .i64 p.at_]))
def zbb_G:Nat→Option CQ:=tblQ []
theorem zbb_Gok:∀f C,zbb_G f=some C→qAg Tryz.prog f C:=fun f C h=>by cases h
def zbb_L:Nat→SubQ:=tblL []
theorem zbb_subs:qBp zbb_L zbb_G 2 2 8 zbb_q:=qBt (show qAu zbb_L zbb_G 2 2 8 [] from tV)
def zbb_c:CSP:=mkP (qAa (dVC (dCO (dH 0 0))) dNil) (qAa qG3 (qAa qB8 dNil)) (fun x y=>zbb_s (⟨y.1.1,y.1.2.1,y.1.2.2.1,y.2.1⟩:rules_parser)) (fun x y r=>.tup []) fun x y r=>[.cells 33 [.vS y.1.1,.vI y.1.2.1,.vI y.1.2.2.1,.bsl 1],.bag qAk 44 y.2.1]
theorem zbb_val:qC8 Tryz.prog 10 zbb_c:=qG1 zbb_chk 2 zbb_Gok 2 (fun x=>Nat.le_of_ble_eq_true rfl) (fun y=>rfl) zbb_subs fun x y=>by
 simp only [zbb_s,-eq_self,qAc,qAe,obA,obS,slL,slR,qAd];kernel_rfl
def zbb_w:CQ:=qBh [(0,some 3,some ((.bag qAk),44))] (liftP false [true,true] zbb_c)
theorem zbb_ok:qAg Tryz.prog 10 zbb_w:=qD5 zbb_val
def zbk_b0:IQ:=(.loop [0,3] (.seq (.seq (rg 18 ([oM 12 t3]++rF 13 t0 0++[oP 17 (.lenS t16),oP 18 (.bi .lss t12 t17)])) (.cond t18 .skip (.cn [0] (.exit 0)))) (.seq (.block 1 (.seq (rg 26 (rF 21 t0 0++[oM 25 t3,oP 26 (.index t24 t25)])) (.block 2 (.seq (rg 27 [oP 28 (.bi .eql t26 (vC 92)),oM 27 t28]) (.cond t27 (rg 3 [oM 29 t3,oP 30 (.bi .add t29 (vI 1)),oM 3 t30]) (.seq (rg 31 [oP 32 (.bi .eql t26 (vC 34)),oM 31 t32]) (.cond t31 (.seq (.reg 6 (some [0,1,2,3,4,5,6,7,8,9,10,11,12,13,14,15,16,17,18]) (rF 34 t0 0++rF 38 t0 1++[oM 42 t3,oP 43 (.bi .add t42 (vI 1)),oP 44 (.sub none t37 (some t41) (some t43)),oP 45 (.call 52 [t44]),oM 33 t45,oP 46 (.extract t33 0),oP 47 (.extract t33 1),oP 48 (.extract t33 2),oM 4 t46,oM 5 t47,oM 6 t48])) (.seq (.seq (rg 50 [oM 49 t5,oP 50 (.bi .neq t49 (vI 0))]) (.cond t50 (rg 52 [oM 51 t0,oP 52 (.call 10 [t51])]) .skip)) (.seq (rg 0 ([oM 53 t0,oM 54 t3,oP 55 (.bi .add t54 (vI 1))]++rS 56 t53 1 t55)) (.seq (rg 2 [oM 58 t4,oP 59 (.iaddr 6 t58 (vI 0)),oP 60 (.faddr 2 t59),oP 61 (.load none t60),oM 2 t61]) (.cn [2] .ret))))) .skip))))))) (rg 3 [oM 19 t3,oP 20 (.bi .add t19 (vI 1)),oM 3 t20]))))
def zbk_q:IQ:=(.seq (rg 2 [oP 2 (.mv (.v (.string ⟨#[]⟩)))]) (.seq (.seq (rg 3 (rF 7 t0 1++[oP 11 (.bi .add t10 (vI 1)),oM 3 t11])) (.block 0 (.cn [0,3] (.sub 0 zbk_b0)))) (.seq (rg 63 [oM 62 t0,oP 63 (.call 10 [t62])]) (.seq (rg 2 [oP 2 (.mv (.v (.string ⟨#[]⟩)))]) (.cn [2] .ret)))))
theorem zbk_chk:chk Tryz.prog 43 []=some (zbk_q.erase,[.tmp 2],64):=by kernel_rfl
def qDo (end_:Int) (p_text:BA) (p_at p_open:Int) (p_out:qAt):Option (Int ⊕ ((BA × Int) ⊕ (PV ⊕ Unit))) :=
 bif decide (end_<(p_text.size:Int)) then (
  gd (0≤end_∧end_<p_text.size) <|
  bif decide ((bAt p_text end_)=(92:Int)) then (
   gd (qAf (end_+(1:Int))) <|
   gd (qAf ((end_+(1:Int))+(1:Int))) <|
   some (.inl ((end_+(1:Int))+(1:Int))))
  else (
   bif decide ((bAt p_text end_)=(34:Int)) then (
    gd (qAf (end_+(1:Int))) <|
    gd (0≤p_at∧p_at≤(end_+(1:Int))∧(end_+(1:Int))≤p_text.size) <|
    (zag_s (p_text.extract (Int.toNat p_at) (Int.toNat (end_+(1:Int))))).bind fun r6 =>
    gd (([.cells 33 [.vS p_text,.vI p_at,.vI p_open,.bsl 1],.bag qAk 44 p_out]:List SB)=[.cells 33 [.vS p_text,.vI p_at,.vI p_open,.bsl 1],.bag qAk 44 p_out]) <|
    bif (!decide (r6.2.1=(0:Int))) then (
     (zbb_s (⟨p_text,p_at,p_open,p_out⟩:rules_parser)).bind fun o8=>(Sum.elim (fun (r7:Unit) =>
      gd (qAf (end_+(1:Int))) <|
      gd (0≤(0:Int)∧(0:Int)<r6.1.length) <|
      gd ((Int.toNat (0:Int))<r6.1.length) <|
      gd ((Int.toNat (0:Int))<r6.1.length) <|
      some (.inr (.inl ((r6.1.getD (Int.toNat (0:Int)) (ET.dft .node)).text,(end_+(1:Int)))))) (fun (q9:PV) =>
      some (.inr (.inr (.inl q9))))) o8)
    else (
     gd (qAf (end_+(1:Int))) <|
     gd (0≤(0:Int)∧(0:Int)<r6.1.length) <|
     gd ((Int.toNat (0:Int))<r6.1.length) <|
     gd ((Int.toNat (0:Int))<r6.1.length) <|
     some (.inr (.inl ((r6.1.getD (Int.toNat (0:Int)) (ET.dft .node)).text,(end_+(1:Int)))))))
   else (
    gd (qAf (end_+(1:Int))) <|
    some (.inl (end_+(1:Int))))))
 else (
  some (.inr (.inr (.inr ()))))
def zbk_p0 (end_:Int) (p_text:BA) (p_at p_open:Int) (p_out:qAt):Option ((BA × Int) ⊕ (PV ⊕ Unit)) :=
 qAw (fun x:Int=>qDo x p_text p_at p_open p_out) end_
def zbk_s (p:rules_parser):Option ((rules_parser × BA) ⊕ PV) :=
 gd (qAf (p.at_+(1:Int))) <|
 (zbk_p0 (p.at_+(1:Int)) p.text p.at_ p.open_ p.out).bind fun o10=>(Sum.elim (fun (o10_0:BA × Int) =>
  some (.inl ({p with at_:=o10_0.2:rules_parser},o10_0.1))) (Sum.elim (fun (o10_1:PV) =>
  some (.inr o10_1)) (fun (o10_2:Unit) =>
  (zbb_s p).bind fun o12=>(Sum.elim (fun (r11:Unit) =>
   some (.inl (p,(⟨#[]⟩:BA)))) (fun (q13:PV) =>
   some (.inr q13))) o12))) o10
def zbk_G:Nat→Option CQ:=tblQ [(52,zag_w),(10,zbb_w)]
theorem zbk_Gok:∀f C,zbk_G f=some C→qAg Tryz.prog f C:=qAl ⟨zag_ok,zbb_ok,tV⟩
def zDRP6:=(qAa (dSO 0 (dH 0 0)) (qAa (dSO 3 dZ) dNil))
def zbk_d0:=(dQS zDRP6 zDRP10)
def zbk_l0:SubQ:=mkL zbk_d0 (fun x=>zbk_p0 x.1.2.1 x.2.1.1 x.2.1.2.1 x.2.1.2.2.1 x.2.2.1) fun x r R kn kx kr=>(Sum.elim (fun (r_0:BA × Int)=>kr ⟨[sL 2 (.vS r_0.1)],[],[.cells 33 [.vS x.2.1.1,.vI r_0.2,.vI x.2.1.2.2.1,.bsl 1],.bag qAk 44 x.2.2.1]⟩) (Sum.elim (fun (r_1:PV)=>kx 1000000007 (panS r_1)) (fun (r_2:Unit)=>kx 0 ⟨[sL 0 (.hd 0 0)],[],[.cells 33 [.vS x.2.1.1,.vI x.2.1.2.1,.vI x.2.1.2.2.1,.bsl 1],.bag qAk 44 x.2.2.1]⟩))) r
def zbk_L:Nat→SubQ:=tblL [(0,zbk_l0)]
theorem zbk_sub0:qA0 zbk_L zbk_G 2 27 64 0 zbk_b0:=qAp (show zbk_L 0=zbk_l0 from by kernel_rfl) fun x R kn kx kr=>qAm (step:=fun y=>qDo y x.2.1.1 x.2.1.2.1 x.2.1.2.2.1 x.2.2.1) (enc:=fun (y:Int)=>zbk_d0.e ((x.1.1,y,x.1.2.2),x.2)) (fun y=>by kernel_rfl) (fun y ki=>by simp only [qDo,-eq_self,qAc,qAe,obA,obS,slL,slR,qAd]; kernel_rfl) x.1.2.1
theorem zbk_subs:qBp zbk_L zbk_G 2 27 64 zbk_q:=qBt (show qAu zbk_L zbk_G 2 27 64 [(0,zbk_b0)] from ⟨zbk_sub0,tV⟩)
def zbk_c:CSP:=mkP (qAa (dVC (dCO (dH 0 0))) dNil) (qAa qG3 (qAa qB8 dNil)) (fun x y=>zbk_s (⟨y.1.1,y.1.2.1,y.1.2.2.1,y.2.1⟩:rules_parser)) (fun x y r=>.c (.o (.vS r.2))) fun x y r=>[.cells 33 [.vS r.1.text,.vI r.1.at_,.vI r.1.open_,.bsl 1],.bag qAk 44 r.1.out]
theorem zbk_val:qC8 Tryz.prog 43 zbk_c:=qG1 zbk_chk 27 zbk_Gok 2 (fun x=>Nat.le_of_ble_eq_true rfl) (fun y=>rfl) zbk_subs fun x y=>by
 simp only [zbk_s,-eq_self,qAc,qAe,obA,obS,slL,slR,qAd];kernel_rfl
def zbk_w:CQ:=qBh [(0,some 3,some ((.bag qAk),44))] (liftP false [true,true] zbk_c)
theorem zbk_ok:qAg Tryz.prog 43 zbk_w:=qD5 zbk_val
def zdj_b0:IQ:=(.loop [0,1,7,8] (.seq (rg 9 [oP 9 (.bi .lss t8 t7)]) (.seq (.cond t9 .skip (.cn [] (.exit 0))) (.seq (.block 1 (.seq (rg 5 [oM 10 t8,oM 5 t10]) (.seq (rg 16 [oM 11 t1,oM 12 t0,oM 13 t5,oP 14 (.iaddr 1 t12 t13),oP 15 (.load none t14),oP 16 (.bi .eql t11 t15)]) (.cond t16 (.seq (rg 4 [oM 17 t5,oM 4 t17]) (.cn [4] .ret)) .skip)))) (rg 8 [oP 18 (.bi .add t8 (vI 1)),oM 8 t18])))))
def zdj_q:IQ:=(.seq (rg 4 [oP 4 (.mv (vI 0))]) (.seq (.seq (rg 8 [oM 6 t0,oP 7 (.len t6),oP 8 (.mv (vI 0))]) (.block 0 (.cn [0,1,7,8] (.sub 0 zdj_b0)))) (.seq (rg 4 [oP 4 (.mv (.v (.int .i64 (-1))))]) (.cn [4] .ret))))
def qEo (v:BA) (x7_ x8_:Int) (s:List BA):Option (Int ⊕ (Int ⊕ Unit)) :=
 bif decide (x8_<x7_) then (
  gd (0≤x8_∧x8_<s.length) <|
  gd ((Int.toNat x8_)<s.length) <|
  bif decide (v=(s.getD (Int.toNat x8_) (ET.dft .str))) then (
   some (.inr (.inl x8_)))
  else (
   gd (qAf (x8_+(1:Int))) <|
   some (.inl (x8_+(1:Int)))))
 else (
  some (.inr (.inr ())))
def zdj_p0 (v:BA) (x7_ x8_:Int) (s:List BA):Option (Int ⊕ Unit) :=
 qAw (fun x:Int=>qEo v x7_ x s) x8_
def zdj_s (s:(List BA)) (v:BA):Option Int :=
 (zdj_p0 v (s.length:Int) (0:Int) s).bind fun o1=>(Sum.elim (fun (o1_0:Int) =>
  some o1_0) (fun (o1_1:Unit) =>
  some (-1:Int))) o1
def zdj_G:Nat→Option CQ:=tblQ []
def zdj_d0:=(dQS (qAa (dSO 0 (dO 0)) (qAa (dSO 1 dS) (qAa (dSO 7 dZ) (qAa (dSO 8 dZ) dNil)))) (qAa (dView .str) dNil))
def zdj_l0:SubQ:=mkL zdj_d0 (fun x=>zdj_p0 x.1.2.1 x.1.2.2.1 x.1.2.2.2.1 x.2.1) fun x r R kn kx kr=>(Sum.elim (fun (r_0:Int)=>kr ⟨[sL 4 (.vI r_0)],[],[.view .str x.2.1]⟩) (fun (r_1:Unit)=>kx 0 ⟨[],[],[.view .str x.2.1]⟩)) r
def zdj_L:Nat→SubQ:=tblL [(0,zdj_l0)]
theorem zdj_sub0:qA0 zdj_L zdj_G 1 9 19 0 zdj_b0:=qAp (show zdj_L 0=zdj_l0 from by kernel_rfl) fun x R kn kx kr=>qAm (step:=fun y=>qEo x.1.2.1 x.1.2.2.1 y x.2.1) (enc:=fun (y:Int)=>zdj_d0.e ((x.1.1,x.1.2.1,x.1.2.2.1,y,x.1.2.2.2.2),x.2)) (fun y=>by kernel_rfl) (fun y ki=>by simp only [qEo,-eq_self,qAc,qAe,obA,obS,slL,slR,qAd]; kernel_rfl) x.1.2.2.2.1
def zdj_c:CS:=mkC (qAa (dVC (dCO (dO 0))) (qAa (dVC (dCO dS)) dNil)) (qAa (dView .str) dNil) (fun x y=>zdj_s y.1 x.2.1) (fun x y r=>.c (.o (.vI r))) fun x y r=>[.view .str y.1]
theorem zdj_val:qAj Tryz.prog 68 zdj_c:=vl1 zdj_q [.tmp 4] 19 9 1 (show qAu zdj_L zdj_G 1 9 19 [(0,zdj_b0)] from ⟨zdj_sub0,tV⟩) (fun f C h=>by cases h) fun x y=>by
 simp only [zdj_s,-eq_self,qAc,qAe,obA,obS,slL,slR,qAd];kernel_rfl
def zdj_w:CQ:=qBh [(0,none,some (.str,9))] (qCl [false] zdj_c)
theorem zdj_ok:qAg Tryz.prog 68 zdj_w:=prep_quiet zdj_val
def zdi_q:IQ:=(.seq (rg 4 [oP 4 (.mv vF)]) (.seq (rg 4 [oM 5 t0,oM 6 t1,oP 7 (.call 68 [t5,t6]),oP 8 (.bi .geq t7 (vI 0)),oM 4 t8]) (.cn [4] .ret)))
def zdi_s (s:(List BA)) (v:BA):Option Bool :=
 (zdj_s s v).bind fun r1 =>
 some (decide ((0:Int)≤r1))
def zdi_c:CS:=mkC (qAa (dVC (dCO (dO 0))) (qAa (dVC (dCO dS)) dNil)) (qAa (dView .str) dNil) (fun x y=>zdi_s y.1 x.2.1) (fun x y r=>.c (.o (.vB r))) fun x y r=>[.view .str y.1]
theorem zdi_val:qAj Tryz.prog 58 zdi_c:=vl0 zdi_q [.tmp 4] 9 5 1 [(68,zdj_w)] ⟨zdj_ok,tV⟩ fun x y=>by
 simp only [zdi_s,-eq_self,qAc,qAe,obA,obS,slL,slR,qAd];kernel_rfl
def zdi_w:CQ:=qBh [(0,none,some (.str,9))] (qCl [false] zdi_c)
theorem zdi_ok:qAg Tryz.prog 58 zdi_w:=prep_quiet zdi_val
def zax_b0:IQ:=(.loop [0,18,19] (.seq (rg 20 [oP 20 (.bi .lss t19 t18)]) (.seq (.cond t20 .skip (.cn [] (.exit 0))) (.seq (.block 1 (.seq (rg 3 [oM 21 t19,oM 3 t21]) (.seq (rg 33 [oM 22 t0,oM 23 t3,oP 24 (.index t22 t23),oP 25 (.call 19 [t24]),oP 26 (.un .not t25),oM 27 t26,oF 28 (.mv t0) 27,oF 29 (.mv t3) 27,oF 30 (.index t28 t29) 27,oF 31 (.call 20 [t30]) 27,oF 32 (.un .not t31) 27,oP 33 (.pick t27 t32 vF)]) (.cond t33 (.seq (rg 2 [oP 2 (.mv vF)]) (.cn [2] .ret)) .skip)))) (rg 19 [oP 34 (.bi .add t19 (vI 1)),oM 19 t34])))))
def zax_q:IQ:=(.seq (rg 2 [oP 2 (.mv vF)]) (.seq (.seq (rg 16 [oM 4 t0,oP 5 (.bi .eql t4 (.v (.string ⟨#[]⟩))),oM 6 t5,oE 7 (.mv t0) 6,oE 8 (.index t7 (vI 0)) 6,oE 9 (.call 19 [t8]) 6,oE 10 (.un .not t9) 6,oP 11 (.pick t6 vT t10),oM 12 t11,oE 13 (.ext (.tab 2) []) 12,oE 14 (.mv t0) 12,oE 15 (.call 58 [t13,t14]) 12,oP 16 (.pick t12 vT t15)]) (.cond t16 (.seq (rg 2 [oP 2 (.mv vF)]) (.cn [2] .ret)) .skip)) (.seq (.seq (rg 19 [oM 17 t0,oP 18 (.lenS t17),oP 19 (.mv (vI 0))]) (.block 0 (.cn [0,18,19] (.sub 0 zax_b0)))) (.seq (rg 2 [oP 2 (.mv vT)]) (.cn [2] .ret)))))
def qFy (s:BA) (x18_ x19_:Int):Option (Int ⊕ (Bool ⊕ Unit)) :=
 bif decide (x19_<x18_) then (
  gd (0≤x19_∧x19_<s.size) <|
  (zaw_s (bAt s x19_)).bind fun r7 =>
  gd ((!r7)=true→0≤x19_∧x19_<s.size) <|
  bif (!r7) then (
   (zav_s (bAt s x19_)).bind fun r8 =>
   bif (!r8) then (
    some (.inr (.inl false)))
   else (
    gd (qAf (x19_+(1:Int))) <|
    some (.inl (x19_+(1:Int)))))
  else (
   gd (qAf (x19_+(1:Int))) <|
   some (.inl (x19_+(1:Int)))))
 else (
  some (.inr (.inr ())))
def zax_p0 (s:BA) (x18_ x19_:Int):Option (Bool ⊕ Unit) :=
 qAw (fun x:Int=>qFy s x18_ x) x19_
def zax_s (s:BA):Option Bool :=
 gd ((decide (s=(⟨#[]⟩:BA)))=false→0≤(0:Int)∧(0:Int)<s.size) <|
 bif decide (s=(⟨#[]⟩:BA)) then (
  some false)
 else (
  (zaw_s (bAt s (0:Int))).bind fun r5 =>
  bif (!r5) then (
   some false)
  else (
   (zdi_s Eng.kwT s).bind fun r6 =>
   bif r6 then (
    some false)
   else (
    (zax_p0 s (s.size:Int) (0:Int)).bind fun o9=>(Sum.elim (fun (o9_0:Bool) =>
     some o9_0) (fun (o9_1:Unit) =>
     some true)) o9)))
def zax_G:Nat→Option CQ:=tblQ [(19,zaw_w),(58,zdi_w),(20,zav_w)]
def zax_d0:=(dQS (qAa (dSO 0 dS) (qAa (dSO 18 dZ) (qAa (dSO 19 dZ) dNil))) dNil)
def zax_l0:SubQ:=mkL zax_d0 (fun x=>zax_p0 x.1.1 x.1.2.1 x.1.2.2.1) fun x r R kn kx kr=>(Sum.elim (fun (r_0:Bool)=>kr ⟨[sL 2 (.vB r_0)],[],[]⟩) (fun (r_1:Unit)=>kx 0 ⟨[],[],[]⟩)) r
def zax_L:Nat→SubQ:=tblL [(0,zax_l0)]
theorem zax_sub0:qA0 zax_L zax_G 0 20 35 0 zax_b0:=qAp (show zax_L 0=zax_l0 from by kernel_rfl) fun x R kn kx kr=>qAm (step:=fun y=>qFy x.1.1 x.1.2.1 y) (enc:=fun (y:Int)=>zax_d0.e ((x.1.1,x.1.2.1,y,x.1.2.2.2),x.2)) (fun y=>by kernel_rfl) (fun y ki=>by simp only [qFy,-eq_self,qAc,qAe,obA,obS,slL,slR,qAd]; kernel_rfl) x.1.2.2.1
def zax_c:CS:=mkC (qAa (dVC (dCO dS)) dNil) dNil (fun x y=>zax_s x.1) (fun x y r=>.c (.o (.vB r))) fun x y r=>[]
theorem zax_val:qAj Tryz.prog 49 zax_c:=vl1 zax_q [.tmp 2] 35 20 0 (show qAu zax_L zax_G 0 20 35 [(0,zax_b0)] from ⟨zax_sub0,tV⟩) (qAl ⟨zaw_ok,zdi_ok,zav_ok,tV⟩) fun x y=>by
 simp only [zax_s,-eq_self,qAc,qAe,obA,obS,slL,slR,qAd];kernel_rfl
def zax_w:CQ:=qCl [] zax_c
theorem zax_ok:qAg Tryz.prog 49 zax_w:=qAn zax_val
def zbs_b0:IQ:=(.loop [0,5,6] (.seq (rg 7 [oP 7 (.bi .lss t6 t5)]) (.seq (.cond t7 .skip (.cn [0] (.exit 0))) (.seq (.block 1 (.seq (rg 3 [oM 8 t6,oM 3 t8]) (.seq (rg 13 [oM 9 t0,oM 10 t3,oP 11 (.index t9 t10),oP 12 (.call 20 [t11]),oP 13 (.un .not t12)]) (.cond t13 (.seq (rg 2 [oP 2 (.mv vF)]) (.cn [2] .ret)) .skip)))) (rg 6 [oP 14 (.bi .add t6 (vI 1)),oM 6 t14])))))
def zbs_q:IQ:=(.seq (rg 2 [oP 2 (.mv vF)]) (.seq (.seq (rg 6 [oM 4 t0,oP 5 (.lenS t4),oP 6 (.mv (vI 0))]) (.block 0 (.cn [0,5,6] (.sub 0 zbs_b0)))) (.seq (rg 2 [oM 15 t0,oP 16 (.bi .eql t15 (.v (.string ⟨#[48]⟩))),oM 17 t16,oE 18 (.mv t0) 17,oE 19 (.bi .neq t18 (.v (.string ⟨#[]⟩))) 17,oE 20 (.mv t19) 17,oF 21 (.mv t0) 20,oF 22 (.index t21 (vI 0)) 20,oF 23 (.bi .neq t22 (vC 48)) 20,oE 24 (.pick t20 t23 vF) 17,oP 25 (.pick t17 vT t24),oM 2 t25]) (.cn [2] .ret))))
def qF3 (s:BA) (x5_ x6_:Int):Option (Int ⊕ (Bool ⊕ Unit)) :=
 bif decide (x6_<x5_) then (
  gd (0≤x6_∧x6_<s.size) <|
  (zav_s (bAt s x6_)).bind fun r2 =>
  bif (!r2) then (
   some (.inr (.inl false)))
  else (
   gd (qAf (x6_+(1:Int))) <|
   some (.inl (x6_+(1:Int)))))
 else (
  some (.inr (.inr ())))
def zbs_p0 (s:BA) (x5_ x6_:Int):Option (Bool ⊕ Unit) :=
 qAw (fun x:Int=>qF3 s x5_ x) x6_
def zbs_s (s:BA):Option Bool :=
 (zbs_p0 s (s.size:Int) (0:Int)).bind fun o3=>(Sum.elim (fun (o3_0:Bool) =>
  some o3_0) (fun (o3_1:Unit) =>
  gd ((!decide (s=(⟨#[]⟩:BA)))=true→(decide (s=(⟨#[48]⟩:BA)))=false→0≤(0:Int)∧(0:Int)<s.size) <|
  some ((decide (s=(⟨#[48]⟩:BA))) || ((!decide (s=(⟨#[]⟩:BA))) && (!decide ((bAt s (0:Int))=(48:Int))))))) o3
def zbs_G:Nat→Option CQ:=tblQ [(20,zav_w)]
def zbs_d0:=(dQS (qAa (dSO 0 dS) (qAa (dSO 5 dZ) (qAa (dSO 6 dZ) dNil))) dNil)
def zbs_l0:SubQ:=mkL zbs_d0 (fun x=>zbs_p0 x.1.1 x.1.2.1 x.1.2.2.1) fun x r R kn kx kr=>(Sum.elim (fun (r_0:Bool)=>kr ⟨[sL 2 (.vB r_0)],[],[]⟩) (fun (r_1:Unit)=>kx 0 ⟨[sL 0 (.vS x.1.1)],[],[]⟩)) r
def zbs_L:Nat→SubQ:=tblL [(0,zbs_l0)]
theorem zbs_sub0:qA0 zbs_L zbs_G 0 7 26 0 zbs_b0:=qAp (show zbs_L 0=zbs_l0 from by kernel_rfl) fun x R kn kx kr=>qAm (step:=fun y=>qF3 x.1.1 x.1.2.1 y) (enc:=fun (y:Int)=>zbs_d0.e ((x.1.1,x.1.2.1,y,x.1.2.2.2),x.2)) (fun y=>by kernel_rfl) (fun y ki=>by simp only [qF3,-eq_self,qAc,qAe,obA,obS,slL,slR,qAd]; kernel_rfl) x.1.2.2.1
def zbs_c:CS:=mkC (qAa (dVC (dCO dS)) dNil) dNil (fun x y=>zbs_s x.1) (fun x y r=>.c (.o (.vB r))) fun x y r=>[]
theorem zbs_val:qAj Tryz.prog 50 zbs_c:=vl1 zbs_q [.tmp 2] 26 7 0 (show qAu zbs_L zbs_G 0 7 26 [(0,zbs_b0)] from ⟨zbs_sub0,tV⟩) (qAl ⟨zav_ok,tV⟩) fun x y=>by
 simp only [zbs_s,-eq_self,qAc,qAe,obA,obS,slL,slR,qAd];kernel_rfl
def zbs_w:CQ:=qCl [] zbs_c
theorem zbs_ok:qAg Tryz.prog 50 zbs_w:=qAn zbs_val
def zbi_b0:IQ:=(.seq (rg 0 (rF 35 t0 1++[oM 39 t5,oP 40 (.lenS t39),oP 41 (.bi .add t38 t40)]++rS 42 t35 1 t41)) (.seq (rg 4 [oM 44 t5,oM 4 t44]) (.cn [4] .ret)))
def zbi_q:IQ:=(.seq (rg 4 [oP 4 (.mv (.v (.string ⟨#[]⟩)))]) (.seq (rg 5 [oP 5 (.mv (.v (.string ⟨#[]⟩)))]) (.seq (.seq (rg 7 [oM 6 t0,oP 7 (.call 9 [t6])]) (.block 0 (.seq (rg 10 [oP 11 (.bi .eql t7 (vI 3)),oM 10 t11]) (.cond t10 (.seq (rg 4 [oM 12 t0,oP 13 (.call 43 [t12]),oM 4 t13]) (.cn [4] .ret)) (.seq (rg 14 [oP 15 (.bi .eql t7 (vI 1)),oM 14 t15]) (.cond t14 (.seq (rg 5 [oM 16 t0,oP 17 (.call 23 [t16]),oM 5 t17]) (.seq (rg 20 [oM 18 t5,oP 19 (.call 49 [t18]),oP 20 (.un .not t19)]) (.cond t20 (rg 22 [oM 21 t0,oP 22 (.call 10 [t21])]) .skip))) (.seq (rg 23 [oP 24 (.bi .eql t7 (vI 2)),oM 23 t24]) (.cond t23 (.seq (rg 5 [oM 25 t0,oP 26 (.call 33 [t25,(.v (.func (.func 20) #[] #[]))]),oM 5 t26]) (.seq (rg 32 [oM 27 t1,oM 28 t27,oE 29 (.mv t5) 28,oE 30 (.call 50 [t29]) 28,oE 31 (.un .not t30) 28,oP 32 (.pick t28 vT t31)]) (.cond t32 (rg 34 [oM 33 t0,oP 34 (.call 10 [t33])]) .skip))) (rg 9 [oM 8 t0,oP 9 (.call 10 [t8])]))))))))) (.cn [0,5] (.sub 0 zbi_b0)))))
theorem zbi_chk:chk Tryz.prog 41 []=some (zbi_q.erase,[.tmp 4],45):=by kernel_rfl
def zbi_p0 (s:BA) (p_at:Int):Option Int :=
 gd (qAf (p_at+(s.size:Int))) <|
 some (p_at+(s.size:Int))
def zbi_s (p:rules_parser) (first:Bool):Option ((rules_parser × BA) ⊕ PV) :=
 (zbf_s p).bind fun r5 =>
 bif decide (r5.2=(3:Int)) then (
  (zbk_s r5.1).bind fun o7=>(Sum.elim (fun (r6:rules_parser × BA) =>
   some (.inl (r6.1,r6.2))) (fun (q8:PV) =>
   some (.inr q8))) o7)
 else (
  bif decide (r5.2=(1:Int)) then (
   (zbd_s r5.1).bind fun r9 =>
   (zax_s r9).bind fun r10 =>
   bif (!r10) then (
    (zbb_s r5.1).bind fun o12=>(Sum.elim (fun (r11:Unit) =>
     (zbi_p0 r9 r5.1.at_).bind fun o14 =>
     some (.inl ({r5.1 with at_:=o14:rules_parser},r9))) (fun (q13:PV) =>
     some (.inr q13))) o12)
   else (
    (zbi_p0 r9 r5.1.at_).bind fun o15 =>
    some (.inl ({r5.1 with at_:=o15:rules_parser},r9))))
  else (
   bif decide (r5.2=(2:Int)) then (
    (zbm_s r5.1 ()).bind fun r16 =>
    bif first then (
     (zbb_s r5.1).bind fun o18=>(Sum.elim (fun (r17:Unit) =>
      (zbi_p0 r16 r5.1.at_).bind fun o20 =>
      some (.inl ({r5.1 with at_:=o20:rules_parser},r16))) (fun (q19:PV) =>
      some (.inr q19))) o18)
    else (
     (zbs_s r16).bind fun r21 =>
     bif (!r21) then (
      (zbb_s r5.1).bind fun o23=>(Sum.elim (fun (r22:Unit) =>
       (zbi_p0 r16 r5.1.at_).bind fun o25 =>
       some (.inl ({r5.1 with at_:=o25:rules_parser},r16))) (fun (q24:PV) =>
       some (.inr q24))) o23)
     else (
      (zbi_p0 r16 r5.1.at_).bind fun o26 =>
      some (.inl ({r5.1 with at_:=o26:rules_parser},r16)))))
   else (
    (zbb_s r5.1).bind fun o28=>(Sum.elim (fun (r27:Unit) =>
     (zbi_p0 (⟨#[]⟩:BA) r5.1.at_).bind fun o30 =>
     some (.inl ({r5.1 with at_:=o30:rules_parser},(⟨#[]⟩:BA)))) (fun (q29:PV) =>
     some (.inr q29))) o28)))
def zbi_G:Nat→Option CQ:=tblQ [(9,zbf_w),(43,zbk_w),(23,zbd_w),(49,zax_w),(10,zbb_w),(33,zbm_w),(50,zbs_w)]
theorem zbi_Gok:∀f C,zbi_G f=some C→qAg Tryz.prog f C:=qAl ⟨zbf_ok,zbk_ok,zbd_ok,zax_ok,zbb_ok,zbm_ok,zbs_ok,tV⟩
def zbi_d0:=(dQS (qAa (dSO 0 (dH 0 0)) (qAa (dSO 5 dS) dNil)) zDRP10)
def zbi_l0:SubQ:=mkL zbi_d0 (fun x=>zbi_p0 x.1.2.1 x.2.1.2.1) fun x r R kn kx kr=>kr ⟨[sL 4 (.vS x.1.2.1)],[],[.cells 33 [.vS x.2.1.1,.vI r,.vI x.2.1.2.2.1,.bsl 1],.bag qAk 44 x.2.2.1]⟩
def zbi_L:Nat→SubQ:=tblL [(0,zbi_l0)]
theorem zbi_sub0:qA0 zbi_L zbi_G 2 8 45 0 zbi_b0:=qAp (show zbi_L 0=zbi_l0 from by kernel_rfl) fun x R kn kx kr=>by
 simp only [zbi_p0,-eq_self,qAc,qAe,obA,obS,slL,slR,qAd];kernel_rfl
theorem zbi_subs:qBp zbi_L zbi_G 2 8 45 zbi_q:=qBt (show qAu zbi_L zbi_G 2 8 45 [(0,zbi_b0)] from ⟨zbi_sub0,tV⟩)
def zbi_c:CSP:=mkP (qAa (dVC (dCO (dH 0 0))) (qAa (dVC (dCO dB)) dNil)) (qAa qG3 (qAa qB8 dNil)) (fun x y=>zbi_s (⟨y.1.1,y.1.2.1,y.1.2.2.1,y.2.1⟩:rules_parser) x.2.1) (fun x y r=>.c (.o (.vS r.2))) fun x y r=>[.cells 33 [.vS r.1.text,.vI r.1.at_,.vI r.1.open_,.bsl 1],.bag qAk 44 r.1.out]
theorem zbi_val:qC8 Tryz.prog 41 zbi_c:=qG1 zbi_chk 8 zbi_Gok 2 (fun x=>Nat.le_of_ble_eq_true rfl) (fun y=>rfl) zbi_subs fun x y=>by
 simp only [zbi_s,-eq_self,qAc,qAe,obA,obS,slL,slR,qAd];kernel_rfl
def zbi_w:CQ:=qBh [(0,some 3,some ((.bag qAk),44))] (liftP false [true,true] zbi_c)
theorem zbi_ok:qAg Tryz.prog 41 zbi_w:=qD5 zbi_val
def zbp_q:IQ:=(.seq (rg 4 [oP 4 (.mv vF)]) (.seq (.seq (.regT 20 (.one ⟨(some 5),.mv t0,none⟩ (.one ⟨(some 6),.callL 9 [t5],none⟩ (.one ⟨(some 7),.bi .neq t6 (vI 4),none⟩ (.one ⟨(some 8),.mv t7,none⟩ (.one ⟨(some 9),.mv t0,some (8,false)⟩ (.one ⟨(some 10),.nk t9,some (8,false)⟩ (.one ⟨(some 11),.faddr 0 t10,some (8,false)⟩ (.one ⟨(some 13),.mv t0,some (8,false)⟩ (.one ⟨(some 14),.nk t13,some (8,false)⟩ (.one ⟨(some 15),.faddr 1 t14,some (8,false)⟩ (.one ⟨(some 18),.mv t1,some (8,false)⟩ (.alt ⟨(some 12),.load none t11,some (8,false)⟩ (.alt ⟨(some 16),.load none t15,some (8,false)⟩ (.one ⟨(some 17),.index t12 t16,some (8,false)⟩ (.one ⟨(some 19),.bi .neq t17 t18,some (8,false)⟩ (.one ⟨(some 20),.pick t8 vT t19,none⟩ .fin))) .stop) (.alt ⟨(some 16),.load none t15,some (8,false)⟩ (.alt ⟨(some 12),.load none t11,some (8,false)⟩ (.one ⟨(some 17),.index t12 t16,some (8,false)⟩ (.one ⟨(some 19),.bi .neq t17 t18,some (8,false)⟩ (.one ⟨(some 20),.pick t8 vT t19,none⟩ .fin))) .stop) .stop)))))))))))))) (.cond t20 (.seq (rg 4 [oP 4 (.mv vF)]) (.cn [4] .ret)) .skip)) (.seq (rg 0 (rF 21 t0 1++[oP 25 (.bi .add t24 (vI 1))]++rS 26 t21 1 t25)) (.seq (rg 4 [oP 4 (.mv vT)]) (.cn [4] .ret)))))
theorem zbp_chk:chk Tryz.prog 30 [6]=some (zbp_q.erase,[.tmp 4],28):=by kernel_rfl
def zbp_s (p:rules_parser) (c:Int):Option (rules_parser × Bool) :=
 (zbf_s p).bind fun r2 =>
 gd ((!decide (r2.2=(4:Int)))=false→0≤r2.1.at_∧r2.1.at_<r2.1.text.size) <|
 bif ((!decide (r2.2=(4:Int))) || (!decide ((bAt r2.1.text r2.1.at_)=c))) then (
  some (r2.1,false))
 else (
  gd (qAf (r2.1.at_+(1:Int))) <|
  some ({r2.1 with at_:=(r2.1.at_+(1:Int)):rules_parser},true))
def zbp_G:Nat→Option CQ:=tblQ [(9,zbf_w)]
theorem zbp_Gok:∀f C,zbp_G f=some C→qAg Tryz.prog f C:=qAl ⟨zbf_ok,tV⟩
def zbp_L:Nat→SubQ:=tblL []
theorem zbp_subs:qBp zbp_L zbp_G 2 5 28 zbp_q:=qBt (show qAu zbp_L zbp_G 2 5 28 [] from tV)
theorem zbp_eq (p:rules_parser) (c:Int) (R:Type) (k:SV→List SB→Option R) :
  Le ((zbp_s p c).bind fun r=>k (.c (.o (.vB r.2))) [.cells 33 [.vS r.1.text,.vI r.1.at_,.vI r.1.open_,.bsl 1],.bag qAk 44 r.1.out]) (fnQ zbp_L zbp_G 5 28 zbp_q [.tmp 4] [.c (.o (.hd 0 0)),.c (.o (.val (.int .u8 c)))] [.cells 33 [.vS p.text,.vI p.at_,.vI p.open_,.bsl 1],.bag qAk 44 p.out] k):=by
 have h:∀K:(rules_parser × Bool)→Option R,Le ((zbp_s p c).bind K) (
  (zbf_s p).bind fun r2 =>
  all2d (
   gd ((!decide (r2.2=(4:Int)))=false→0≤r2.1.at_∧r2.1.at_<r2.1.text.size) <|
   bif ((!decide (r2.2=(4:Int))) || (!decide ((bAt r2.1.text r2.1.at_)=c))) then (
    (K) (r2.1,false))
   else (
    gd (qAf (r2.1.at_+(1:Int))) <|
    (K) ({r2.1 with at_:=(r2.1.at_+(1:Int)):rules_parser},true)))):=fun K=>by
  unfold zbp_s;repeat' (first | exact Le.refl _ | refine Le.gdb ?_ | refine Le.condb ?_ ?_ | refine Le.all2d ?_ | refine Le.all2b ?_ ?_ | refine Le.bindb (fun _=>?_) | refine Le.elimb (fun _=>?_) (fun _=>?_))
 exact (h _).trans (Le.of_eq (by kernel_rfl))
def zbp_da:=(qAa (dVC (dCO (dH 0 0))) zDRP14)
def zbp_db:=(qAa qG3 (qAa qB8 dNil))
def zbp_c:CS:=fun args hp R k=>(Dec.d zbp_da args).bind fun x=>(Dec.d zbp_db hp).bind fun y=>(zbp_s (⟨y.1.1,y.1.2.1,y.1.2.2.1,y.2.1⟩:rules_parser) x.2.1).bind fun r=>k (.c (.o (.vB r.2))) [.cells 33 [.vS r.1.text,.vI r.1.at_,.vI r.1.open_,.bsl 1],.bag qAk 44 r.1.out]
theorem zbp_val:qAj Tryz.prog 30 zbp_c :=
 val_le zbp_chk 5 zbp_Gok zbp_da zbp_db 2 (fun x y R k=>(zbp_s (⟨y.1.1,y.1.2.1,y.1.2.2.1,y.2.1⟩:rules_parser) x.2.1).bind fun r=>k (.c (.o (.vB r.2))) [.cells 33 [.vS r.1.text,.vI r.1.at_,.vI r.1.open_,.bsl 1],.bag qAk 44 r.1.out]) (by kernel_rfl)
  (fun x y R k=>by simp only [Option.bind_assoc,obS]) (fun x=>Nat.le_of_ble_eq_true rfl) (fun y=>rfl) zbp_subs fun x y=>zbp_eq (⟨y.1.1,y.1.2.1,y.1.2.2.1,y.2.1⟩:rules_parser) x.2.1 (SV × List SB) (fun v hp'=>some (v,hp'))
def zbp_w:CQ:=qBh [(0,some 3,some ((.bag qAk),44))] (qBs [true,true] zbp_c)
theorem zbp_ok:qAg Tryz.prog 30 zbp_w:=qAs zbp_val
def zbj_b0:IQ:=(.loop [0,3] (.seq (.seq (rg 8 [oM 7 t0,oP 8 (.call 30 [t7,(vC 46)])]) (.cond t8 .skip (.cn [3] (.exit 0)))) (.block 1 (rg 3 [oM 9 t3,oM 10 t0,oP 11 (.call 41 [t10,vF]),oP 12 (.bslice 9 1 1 [.string ⟨#[]⟩] [(0,t11)]),oP 13 (.append 9 1 16 [.string ⟨#[]⟩] t9 t12),oM 3 t13]))))
def zbj_q:IQ:=(.seq (rg 2 [oP 2 (.mv (.v (.slice none 0 0)))]) (.seq (rg 3 [oM 4 t0,oP 5 (.call 41 [t4,vT]),oP 6 (.bslice 9 1 1 [.string ⟨#[]⟩] [(0,t5)]),oM 3 t6]) (.seq (.block 0 (.cn [0,3] (.sub 0 zbj_b0))) (.seq (rg 2 [oM 14 t3,oM 2 t14]) (.canon [(2,none,.str,9)] [2] .ret)))))
theorem zbj_chk:chk Tryz.prog 29 []=some (zbj_q.erase,[.tmp 2],15):=by kernel_rfl
def qEh (p_text:BA) (p_at p_open:Int) (p_out:qAt) (l:List BA):Option ((BA × Int × Int × qAt × (List BA)) ⊕ (PV ⊕ (BA × Int × Int × qAt × (List BA)))) :=
 (zbp_s (⟨p_text,p_at,p_open,p_out⟩:rules_parser) (46:Int)).bind fun r47 =>
 bif r47.2 then (
  (zbi_s r47.1 false).bind fun o49=>(Sum.elim (fun (r48:rules_parser × BA) =>
   gd (l.length+([r48.2]:List BA).length≤9223372036854775807∧(l.length+([r48.2]:List BA).length)*16≤140737488355328) <|
   some (.inl (r48.1.text,r48.1.at_,r48.1.open_,r48.1.out,(l++[r48.2])))) (fun (q50:PV) =>
   some (.inr (.inl q50)))) o49)
 else (
  some (.inr (.inr (r47.1.text,r47.1.at_,r47.1.open_,r47.1.out,l))))
def zbj_p0 (p_text:BA) (p_at p_open:Int) (p_out:qAt) (l:List BA):Option (PV ⊕ (BA × Int × Int × qAt × (List BA))) :=
 qAw (fun x:(BA × Int × Int × qAt × (List BA))=>qEh x.1 x.2.1 x.2.2.1 x.2.2.2.1 x.2.2.2.2) (p_text,p_at,p_open,p_out,l)
def zbj_s (p:rules_parser):Option ((rules_parser × (List BA)) ⊕ PV) :=
 (zbi_s p true).bind fun o45=>(Sum.elim (fun (r44:rules_parser × BA) =>
  (zbj_p0 r44.1.text r44.1.at_ r44.1.open_ r44.1.out [r44.2]).bind fun o51=>(Sum.elim (fun (o51_0:PV) =>
   some (.inr o51_0)) (fun (o51_1:BA × Int × Int × qAt × (List BA)) =>
   some (.inl ((⟨o51_1.1,o51_1.2.1,o51_1.2.2.1,o51_1.2.2.2.1⟩:rules_parser),o51_1.2.2.2.2)))) o51) (fun (q46:PV) =>
  some (.inr q46))) o45
def zbj_G:Nat→Option CQ:=tblQ [(41,zbi_w),(30,zbp_w)]
theorem zbj_Gok:∀f C,zbj_G f=some C→qAg Tryz.prog f C:=qAl ⟨zbi_ok,zbp_ok,tV⟩
def zDRP11:=(qAa (dSO 0 (dH 0 0)) (qAa (dSO 3 (dO 2)) dNil))
def zDRP12:=(qAa qB8 (qAa (dRow .str 9) dNil))
def zbj_d0:=(dQS zDRP11 (qAa qG3 zDRP12))
def zbj_l0:SubQ:=mkL zbj_d0 (fun x=>zbj_p0 x.2.1.1 x.2.1.2.1 x.2.1.2.2.1 x.2.2.1 x.2.2.2.1) fun x r R kn kx kr=>(Sum.elim (fun (r_0:PV)=>kx 1000000007 (panS r_0)) (fun (r_1:BA × Int × Int × qAt × (List BA))=>kx 0 ⟨[sL 3 (.own 2)],[],[.cells 33 [.vS r_1.1,.vI r_1.2.1,.vI r_1.2.2.1,.bsl 1],.bag qAk 44 r_1.2.2.2.1,.row .str 9 r_1.2.2.2.2]⟩)) r
def zbj_L:Nat→SubQ:=tblL [(0,zbj_l0)]
theorem zbj_sub0:qA0 zbj_L zbj_G 2 4 15 0 zbj_b0:=qAp (show zbj_L 0=zbj_l0 from by kernel_rfl) fun x R kn kx kr=>qAm (step:=fun y=>qEh y.1 y.2.1 y.2.2.1 y.2.2.2.1 y.2.2.2.2) (enc:=fun (y:BA × Int × Int × qAt × (List BA))=>zbj_d0.e (x.1,((y.1,y.2.1,y.2.2.1,x.2.1.2.2.2),y.2.2.2.1,y.2.2.2.2,x.2.2.2.2))) (fun y=>by kernel_rfl) (fun y ki=>by simp only [qEh,-eq_self,qAc,qAe,obA,obS,slL,slR,qAd]; kernel_rfl) (x.2.1.1,x.2.1.2.1,x.2.1.2.2.1,x.2.2.1,x.2.2.2.1)
theorem zbj_subs:qBp zbj_L zbj_G 2 4 15 zbj_q:=qBt (show qAu zbj_L zbj_G 2 4 15 [(0,zbj_b0)] from ⟨zbj_sub0,tV⟩)
def zbj_c:CSP:=mkP (qAa (dVC (dCO (dH 0 0))) dNil) (qAa qG3 (qAa qB8 dNil)) (fun x y=>zbj_s (⟨y.1.1,y.1.2.1,y.1.2.2.1,y.2.1⟩:rules_parser)) (fun x y r=>.c (.o (.own 2))) fun x y r=>[.cells 33 [.vS r.1.text,.vI r.1.at_,.vI r.1.open_,.bsl 1],.bag qAk 44 r.1.out,.row .str 9 r.2]
theorem zbj_val:qC8 Tryz.prog 29 zbj_c:=qG1 zbj_chk 4 zbj_Gok 2 (fun x=>Nat.le_of_ble_eq_true rfl) (fun y=>rfl) zbj_subs fun x y=>by
 simp only [zbj_s,-eq_self,qAc,qAe,obA,obS,slL,slR,qAd];kernel_rfl
def zbj_w:CQ:=qBh [(0,some 3,some ((.bag qAk),44))] (liftP false [true,true] zbj_c)
theorem zbj_ok:qAg Tryz.prog 29 zbj_w:=qD5 zbj_val
def zdl_q:IQ:=(.seq (rg 4 [oP 4 (.mv vF)]) (.seq (rg 4 [oM 5 t0,oM 6 t1,oP 7 (.call 51 [t5,t6]),oM 4 t7]) (.cn [4] .ret)))
def zdl_s (s prefix_:BA):Option Bool :=
 (zae_s s prefix_).bind fun r1 =>
 some r1
def zdl_c:CS:=mkC (qAa (dVC (dCO dS)) (qAa (dVC (dCO dS)) dNil)) dNil (fun x y=>zdl_s x.1 x.2.1) (fun x y r=>.c (.o (.vB r))) fun x y r=>[]
theorem zdl_val:qAj Tryz.prog 42 zdl_c:=vl0 zdl_q [.tmp 4] 8 5 0 [(51,zae_w)] ⟨zae_ok,tV⟩ fun x y=>by
 simp only [zdl_s,-eq_self,qAc,qAe,obA,obS,slL,slR,qAd];kernel_rfl
def zdl_w:CQ:=qCl [] zdl_c
theorem zdl_ok:qAg Tryz.prog 42 zdl_w:=qAn zdl_val
def zbh_b2:IQ:=(.join [] [0,7,8,9] (.cond t29 (.seq (.reg 0 (some [0,1,2,3,4,5,6,7,8,9,10]) (rF 30 t0 1++[oP 34 (.faddr 0 t4),oP 35 (.load none t34),oP 36 (.lenS t35),oP 37 (.bi .add t33 t36)]++rS 38 t30 1 t37)) (.seq (rg 2 [oP 40 (.faddr 1 t4),oP 41 (.load none t40),oM 2 t41]) (.cn [2] .ret))) .skip))
def zbh_b1:IQ:=(.join [] [0,7,8,9] (.seq (rg 10 [oP 10 (.bi .lss t9 t8)]) (.seq (.cond t10 .skip (.cn [0] (.exit 0))) (.seq (.block 1 (.seq (rg 0 [oP 11 (.iaddr 2 t7 t9),oP 12 (.load (some 2) t11),oP 4 (.alloc 60 [.string ⟨#[]⟩,.int .i64 0]),oN (.store 2 t4 t12)]) (.seq (.regT 29 (.one ⟨(some 13),.mv t0,none⟩ (.one ⟨(some 14),.callL 9 [t13],none⟩ (.one ⟨(some 15),.bi .eql t14 (vI 4),none⟩ (.one ⟨(some 16),.mv t15,none⟩ (.one ⟨(some 17),.mv t0,some (16,true)⟩ (.one ⟨(some 18),.nk t17,some (16,true)⟩ (.one ⟨(some 19),.faddr 0 t18,some (16,true)⟩ (.one ⟨(some 21),.mv t0,some (16,true)⟩ (.one ⟨(some 22),.nk t21,some (16,true)⟩ (.one ⟨(some 23),.faddr 1 t22,some (16,true)⟩ (.one ⟨(some 26),.faddr 0 t4,some (16,true)⟩ (.alt ⟨(some 20),.load none t19,some (16,true)⟩ (.alt ⟨(some 24),.load none t23,some (16,true)⟩ (.one ⟨(some 25),.sub none t20 (some t24) none,some (16,true)⟩ (.alt ⟨(some 27),.load none t26,some (16,true)⟩ (.one ⟨(some 28),.call 42 [t25,t27],some (16,true)⟩ (.one ⟨(some 29),.pick t16 t28 vF,none⟩ .fin)) .stop)) (.alt ⟨(some 27),.load none t26,some (16,true)⟩ (.alt ⟨(some 24),.load none t23,some (16,true)⟩ (.one ⟨(some 25),.sub none t20 (some t24) none,some (16,true)⟩ (.one ⟨(some 28),.call 42 [t25,t27],some (16,true)⟩ (.one ⟨(some 29),.pick t16 t28 vF,none⟩ .fin))) .stop) .stop)) (.alt ⟨(some 24),.load none t23,some (16,true)⟩ (.alt ⟨(some 20),.load none t19,some (16,true)⟩ (.one ⟨(some 25),.sub none t20 (some t24) none,some (16,true)⟩ (.alt ⟨(some 27),.load none t26,some (16,true)⟩ (.one ⟨(some 28),.call 42 [t25,t27],some (16,true)⟩ (.one ⟨(some 29),.pick t16 t28 vF,none⟩ .fin)) .stop)) (.alt ⟨(some 27),.load none t26,some (16,true)⟩ (.alt ⟨(some 20),.load none t19,some (16,true)⟩ (.one ⟨(some 25),.sub none t20 (some t24) none,some (16,true)⟩ (.one ⟨(some 28),.call 42 [t25,t27],some (16,true)⟩ (.one ⟨(some 29),.pick t16 t28 vF,none⟩ .fin))) .stop) .stop)) (.alt ⟨(some 27),.load none t26,some (16,true)⟩ (.alt ⟨(some 20),.load none t19,some (16,true)⟩ (.alt ⟨(some 24),.load none t23,some (16,true)⟩ (.one ⟨(some 25),.sub none t20 (some t24) none,some (16,true)⟩ (.one ⟨(some 28),.call 42 [t25,t27],some (16,true)⟩ (.one ⟨(some 29),.pick t16 t28 vF,none⟩ .fin))) .stop) (.alt ⟨(some 24),.load none t23,some (16,true)⟩ (.alt ⟨(some 20),.load none t19,some (16,true)⟩ (.one ⟨(some 25),.sub none t20 (some t24) none,some (16,true)⟩ (.one ⟨(some 28),.call 42 [t25,t27],some (16,true)⟩ (.one ⟨(some 29),.pick t16 t28 vF,none⟩ .fin))) .stop) .stop)) .stop))))))))))))))) (.cn [0,4,7,8,9,29] (.sub 2 zbh_b2))))) (rg 9 [oP 42 (.bi .add t9 (vI 1)),oM 9 t42])))))
def zbh_b0:IQ:=(.loop [0,7,8,9] (.cn [0,7,8,9] (.sub 1 zbh_b1)))
def zbh_q:IQ:=(.seq (rg 2 [oP 2 (.mv (vI 0))]) (.seq (.seq (rg 6 [oM 5 t0,oP 6 (.call 16 [t5,(.v (.string ⟨#[99,111,110,116,97,105,110,115]⟩))])]) (.cond t6 (.seq (rg 2 [oP 2 (.mv (vI 11))]) (.cn [2] .ret)) .skip)) (.seq (.seq (rg 9 [oP 7 (.ext (.tab 0) []),oP 8 (.len t7),oP 9 (.mv (vI 0))]) (.block 0 (.cn [0,7,8,9] (.sub 0 zbh_b0)))) (.seq (rg 44 [oM 43 t0,oP 44 (.call 10 [t43])]) (.seq (rg 2 [oP 2 (.mv (vI 0))]) (.cn [2] .ret))))))
theorem zbh_chk:chk Tryz.prog 31 [14]=some (zbh_q.erase,[.tmp 2],45):=by kernel_rfl
def zbh_p2 (x29_:Bool) (p_at:Int) (qIa:BA):Option (Int ⊕ Unit) :=
 bif x29_ then (
  gd (qAf (p_at+(qIa.size:Int))) <|
  some (.inl (p_at+(qIa.size:Int))))
 else (
  some (.inr ()))
def zbh_p1 (x8_ x9_:Int) (p_text:BA) (p_at p_open:Int) (p_out:qAt) (x7_:List Eng.Tag):Option ((Int × BA × Int × Int × qAt) ⊕ ((Int × BA × Int × Int × qAt) ⊕ Unit)) :=
 bif decide (x9_<x8_) then (
  gd (0≤x9_∧x9_<x7_.length) <|
  gd ((Int.toNat x9_)<x7_.length) <|
  (zbf_s (⟨p_text,p_at,p_open,p_out⟩:rules_parser)).bind fun r78 =>
  gd ((decide (r78.2=(4:Int)))=true→0≤r78.1.at_∧r78.1.at_≤(r78.1.text.size:Int)∧(r78.1.text.size:Int)≤r78.1.text.size) <|
  (zdl_s (r78.1.text.extract (Int.toNat r78.1.at_) r78.1.text.size) ((x7_.getD (Int.toNat x9_) (ET.dft .tag)).text)).bind fun r79 =>
  (zbh_p2 ((decide (r78.2=(4:Int))) && r79) r78.1.at_ ((x7_.getD (Int.toNat x9_) (ET.dft .tag)).text)).bind fun o80=>(Sum.elim (fun (o80_0:Int) =>
   some (.inl ((x7_.getD (Int.toNat x9_) (ET.dft .tag)).num,r78.1.text,o80_0,r78.1.open_,r78.1.out))) (fun (o80_1:Unit) =>
   gd (qAf (x9_+(1:Int))) <|
   some (.inr (.inl ((x9_+(1:Int)),r78.1.text,r78.1.at_,r78.1.open_,r78.1.out))))) o80)
 else (
  some (.inr (.inr ())))
def qC3 (x8_ x9_:Int) (p_text:BA) (p_at p_open:Int) (p_out:qAt) (x7_:List Eng.Tag):Option ((Int × BA × Int × Int × qAt) ⊕ ((Int × BA × Int × Int × qAt) ⊕ (BA × Int × Int × qAt))) :=
 (zbh_p1 x8_ x9_ p_text p_at p_open p_out x7_).bind fun o91=>(Sum.elim (fun (o91_0:Int × BA × Int × Int × qAt) =>
  some (.inr (.inl (o91_0.1,o91_0.2.1,o91_0.2.2.1,o91_0.2.2.2.1,o91_0.2.2.2.2)))) (Sum.elim (fun (o91_1:Int × BA × Int × Int × qAt) =>
  some (.inl (o91_1.1,o91_1.2.1,o91_1.2.2.1,o91_1.2.2.2.1,o91_1.2.2.2.2))) (fun (o91_2:Unit) =>
  some (.inr (.inr (p_text,p_at,p_open,p_out)))))) o91
def zbh_p0 (x8_ x9_:Int) (p_text:BA) (p_at p_open:Int) (p_out:qAt) (x7_:List Eng.Tag):Option ((Int × BA × Int × Int × qAt) ⊕ (BA × Int × Int × qAt)) :=
 qAw (fun x:(Int × BA × Int × Int × qAt)=>qC3 x8_ x.1 x.2.1 x.2.2.1 x.2.2.2.1 x.2.2.2.2 x7_) (x9_,p_text,p_at,p_open,p_out)
def zbh_s (p:rules_parser):Option ((rules_parser × Int) ⊕ PV) :=
 (zbc_s p (⟨#[99,111,110,116,97,105,110,115]⟩:BA)).bind fun r77 =>
 bif r77.2 then (
  some (.inl (r77.1,(11:Int))))
 else (
  (zbh_p0 (Eng.opT.length:Int) (0:Int) r77.1.text r77.1.at_ r77.1.open_ r77.1.out Eng.opT).bind fun o92=>(Sum.elim (fun (o92_0:Int × BA × Int × Int × qAt) =>
   some (.inl ((⟨o92_0.2.1,o92_0.2.2.1,o92_0.2.2.2.1,o92_0.2.2.2.2⟩:rules_parser),o92_0.1))) (fun (o92_1:BA × Int × Int × qAt) =>
   (zbb_s (⟨o92_1.1,o92_1.2.1,o92_1.2.2.1,o92_1.2.2.2⟩:rules_parser)).bind fun o94=>(Sum.elim (fun (r93:Unit) =>
    some (.inl ((⟨o92_1.1,o92_1.2.1,o92_1.2.2.1,o92_1.2.2.2⟩:rules_parser),(0:Int)))) (fun (q95:PV) =>
    some (.inr q95))) o94)) o92)
def zbh_G:Nat→Option CQ:=tblQ [(16,zbc_w),(9,zbf_w),(42,zdl_w),(10,zbb_w)]
theorem zbh_Gok:∀f C,zbh_G f=some C→qAg Tryz.prog f C:=qAl ⟨zbc_ok,zbf_ok,zdl_ok,zbb_ok,tV⟩
def zbh_d2:=(dQS (qAa (dSO 0 (dH 0 0)) (qAa (dSO 4 (dH 2 0)) (qAa (dSO 7 (dO 3)) (qAa (dSO 8 dZ) (qAa (dSO 9 dZ) (qAa (dSO 29 dB) dNil)))))) (qAa qG3 (qAa qB8 (qAa (qEr 60 (qAa dS (qAa dZ dNil))) (qAa (dView .tag) dNil)))))
def zbh_l2:SubQ:=mkL zbh_d2 (fun x=>zbh_p2 x.1.2.2.2.2.2.1 x.2.1.2.1 x.2.2.2.1.1) fun x r R kn kx kr=>(Sum.elim (fun (r_0:Int)=>kr ⟨[sL 2 (.vI x.2.2.2.1.2.1)],[],[.cells 33 [.vS x.2.1.1,.vI r_0,.vI x.2.1.2.2.1,.bsl 1],.bag qAk 44 x.2.2.1]⟩) (fun (r_1:Unit)=>kn ⟨[sL 0 (.hd 0 0),sL 7 (.own 2),sL 8 (.vI x.1.2.2.2.1),sL 9 (.vI x.1.2.2.2.2.1)],[],[.cells 33 [.vS x.2.1.1,.vI x.2.1.2.1,.vI x.2.1.2.2.1,.bsl 1],.bag qAk 44 x.2.2.1,.view .tag x.2.2.2.2.1]⟩)) r
def zbh_d1:=(dQS (qAa (dSO 0 (dH 0 0)) (qAa (dSO 7 (dO 2)) (qAa (dSO 8 dZ) (qAa (dSO 9 dZ) dNil)))) (qAa qG3 (qAa qB8 (qAa (dView .tag) dNil))))
def zbh_l1:SubQ:=fun S R kn kx kr=>(Dec.d zbh_d1 S).bind fun x=>(zbh_p1 x.1.2.2.1 x.1.2.2.2.1 x.2.1.1 x.2.1.2.1 x.2.1.2.2.1 x.2.2.1 x.2.2.2.1).bind fun r=>(Sum.elim (fun (r_0:Int × BA × Int × Int × qAt)=>kr ⟨[sL 2 (.vI r_0.1)],[],[.cells 33 [.vS r_0.2.1,.vI r_0.2.2.1,.vI r_0.2.2.2.1,.bsl 1],.bag qAk 44 r_0.2.2.2.2]⟩) (Sum.elim (fun (r_1:Int × BA × Int × Int × qAt)=>kn ⟨[sL 0 (.hd 0 0),sL 7 (.own 2),sL 8 (.vI x.1.2.2.1),sL 9 (.vI r_1.1)],[],[.cells 33 [.vS r_1.2.1,.vI r_1.2.2.1,.vI r_1.2.2.2.1,.bsl 1],.bag qAk 44 r_1.2.2.2.2,.view .tag x.2.2.2.1]⟩) (fun (r_2:Unit)=>kx 0 ⟨[sL 0 (.hd 0 0)],[],[.cells 33 [.vS x.2.1.1,.vI x.2.1.2.1,.vI x.2.1.2.2.1,.bsl 1],.bag qAk 44 x.2.2.1]⟩))) r
def zbh_d0:=(dQS (qAa (dSO 0 (dH 0 0)) (qAa (dSO 7 (dO 2)) (qAa (dSO 8 dZ) (qAa (dSO 9 dZ) dNil)))) (qAa qG3 (qAa qB8 (qAa (dView .tag) dNil))))
def zbh_l0:SubQ:=mkL zbh_d0 (fun x=>zbh_p0 x.1.2.2.1 x.1.2.2.2.1 x.2.1.1 x.2.1.2.1 x.2.1.2.2.1 x.2.2.1 x.2.2.2.1) fun x r R kn kx kr=>(Sum.elim (fun (r_0:Int × BA × Int × Int × qAt)=>kr ⟨[sL 2 (.vI r_0.1)],[],[.cells 33 [.vS r_0.2.1,.vI r_0.2.2.1,.vI r_0.2.2.2.1,.bsl 1],.bag qAk 44 r_0.2.2.2.2]⟩) (fun (r_1:BA × Int × Int × qAt)=>kx 0 ⟨[sL 0 (.hd 0 0)],[],[.cells 33 [.vS r_1.1,.vI r_1.2.1,.vI r_1.2.2.1,.bsl 1],.bag qAk 44 r_1.2.2.2]⟩)) r
def zbh_L:Nat→SubQ:=tblL [(2,zbh_l2),(1,zbh_l1),(0,zbh_l0)]
theorem zbh_sub2:qA0 zbh_L zbh_G 2 10 45 2 zbh_b2:=qAp (show zbh_L 2=zbh_l2 from by kernel_rfl) fun x R kn kx kr=>by
 simp only [zbh_p2,-eq_self,qAc,qAe,obA,obS,slL,slR,qAd];kernel_rfl
theorem zbh_p1_eq (x8_ x9_:Int) (p_text:BA) (p_at p_open:Int) (p_out:qAt) (x7_:List Eng.Tag) (R:Type) (kn:QS→Option R) (kx:Nat→QS→Option R) (kr:QS→Option R) :
  Le ((zbh_p1 x8_ x9_ p_text p_at p_open p_out x7_).bind fun r=>(Sum.elim (fun (r_0:Int × BA × Int × Int × qAt)=>kr ⟨[sL 2 (.vI r_0.1)],[],[.cells 33 [.vS r_0.2.1,.vI r_0.2.2.1,.vI r_0.2.2.2.1,.bsl 1],.bag qAk 44 r_0.2.2.2.2]⟩) (Sum.elim (fun (r_1:Int × BA × Int × Int × qAt)=>kn ⟨[sL 0 (.hd 0 0),sL 7 (.own 2),sL 8 (.vI x8_),sL 9 (.vI r_1.1)],[],[.cells 33 [.vS r_1.2.1,.vI r_1.2.2.1,.vI r_1.2.2.2.1,.bsl 1],.bag qAk 44 r_1.2.2.2.2,.view .tag x7_]⟩) (fun (r_2:Unit)=>kx 0 ⟨[sL 0 (.hd 0 0)],[],[.cells 33 [.vS p_text,.vI p_at,.vI p_open,.bsl 1],.bag qAk 44 p_out]⟩))) r) (qA1 zbh_L zbh_G 2 10 45 zbh_b1 ⟨[sL 0 (.hd 0 0),sL 7 (.own 2),sL 8 (.vI x8_),sL 9 (.vI x9_)],[],[.cells 33 [.vS p_text,.vI p_at,.vI p_open,.bsl 1],.bag qAk 44 p_out,.view .tag x7_]⟩ kn kx kr):=by
 have h:∀K:((Int × BA × Int × Int × qAt) ⊕ ((Int × BA × Int × Int × qAt) ⊕ Unit))→Option R,Le ((zbh_p1 x8_ x9_ p_text p_at p_open p_out x7_).bind K) (
  bif decide (x9_<x8_) then (
   gd (0≤x9_∧x9_<x7_.length) <|
   gd ((Int.toNat x9_)<x7_.length) <|
   (zbf_s (⟨p_text,p_at,p_open,p_out⟩:rules_parser)).bind fun r78 =>
   all2 (
    all2d (
     gd ((decide (r78.2=(4:Int)))=true→0≤r78.1.at_∧r78.1.at_≤(r78.1.text.size:Int)∧(r78.1.text.size:Int)≤r78.1.text.size) <|
     (zdl_s (r78.1.text.extract (Int.toNat r78.1.at_) r78.1.text.size) ((x7_.getD (Int.toNat x9_) (ET.dft .tag)).text)).bind fun r79 =>
     (zbh_p2 ((decide (r78.2=(4:Int))) && r79) r78.1.at_ ((x7_.getD (Int.toNat x9_) (ET.dft .tag)).text)).bind fun o80=>(Sum.elim (fun (o80_0:Int) =>
      (K) (.inl ((x7_.getD (Int.toNat x9_) (ET.dft .tag)).num,r78.1.text,o80_0,r78.1.open_,r78.1.out))) (fun (o80_1:Unit) =>
      gd (qAf (x9_+(1:Int))) <|
      (K) (.inr (.inl ((x9_+(1:Int)),r78.1.text,r78.1.at_,r78.1.open_,r78.1.out))))) o80)) (
    all2d (
     all2d (
      gd ((decide (r78.2=(4:Int)))=true→0≤r78.1.at_∧r78.1.at_≤(r78.1.text.size:Int)∧(r78.1.text.size:Int)≤r78.1.text.size) <|
      (zdl_s (r78.1.text.extract (Int.toNat r78.1.at_) r78.1.text.size) ((x7_.getD (Int.toNat x9_) (ET.dft .tag)).text)).bind fun r83 =>
      (zbh_p2 ((decide (r78.2=(4:Int))) && r83) r78.1.at_ ((x7_.getD (Int.toNat x9_) (ET.dft .tag)).text)).bind fun o84=>(Sum.elim (fun (o84_0:Int) =>
       (K) (.inl ((x7_.getD (Int.toNat x9_) (ET.dft .tag)).num,r78.1.text,o84_0,r78.1.open_,r78.1.out))) (fun (o84_1:Unit) =>
       gd (qAf (x9_+(1:Int))) <|
       (K) (.inr (.inl ((x9_+(1:Int)),r78.1.text,r78.1.at_,r78.1.open_,r78.1.out))))) o84))))
  else (
   (K) (.inr (.inr ())))):=fun K=>by
  unfold zbh_p1;repeat' (first | exact Le.refl _ | refine Le.gdb ?_ | refine Le.condb ?_ ?_ | refine Le.all2d ?_ | refine Le.all2b ?_ ?_ | refine Le.bindb (fun _=>?_) | refine Le.elimb (fun _=>?_) (fun _=>?_))
 exact (h _).trans (Le.of_eq (by kernel_rfl))
theorem zbh_sub1:qA0 zbh_L zbh_G 2 10 45 1 zbh_b1:=sub_le zbh_d1 (fun x R kn kx kr=>(zbh_p1 x.1.2.2.1 x.1.2.2.2.1 x.2.1.1 x.2.1.2.1 x.2.1.2.2.1 x.2.2.1 x.2.2.2.1).bind fun r=>(Sum.elim (fun (r_0:Int × BA × Int × Int × qAt)=>kr ⟨[sL 2 (.vI r_0.1)],[],[.cells 33 [.vS r_0.2.1,.vI r_0.2.2.1,.vI r_0.2.2.2.1,.bsl 1],.bag qAk 44 r_0.2.2.2.2]⟩) (Sum.elim (fun (r_1:Int × BA × Int × Int × qAt)=>kn ⟨[sL 0 (.hd 0 0),sL 7 (.own 2),sL 8 (.vI x.1.2.2.1),sL 9 (.vI r_1.1)],[],[.cells 33 [.vS r_1.2.1,.vI r_1.2.2.1,.vI r_1.2.2.2.1,.bsl 1],.bag qAk 44 r_1.2.2.2.2,.view .tag x.2.2.2.1]⟩) (fun (r_2:Unit)=>kx 0 ⟨[sL 0 (.hd 0 0)],[],[.cells 33 [.vS x.2.1.1,.vI x.2.1.2.1,.vI x.2.1.2.2.1,.bsl 1],.bag qAk 44 x.2.2.1]⟩))) r) (by kernel_rfl) fun x R kn kx kr=>zbh_p1_eq x.1.2.2.1 x.1.2.2.2.1 x.2.1.1 x.2.1.2.1 x.2.1.2.2.1 x.2.2.1 x.2.2.2.1 R kn kx kr
theorem zbh_sub0:qA0 zbh_L zbh_G 2 10 45 0 zbh_b0:=qAp (show zbh_L 0=zbh_l0 from by kernel_rfl) fun x R kn kx kr=>qAm (step:=fun y=>qC3 x.1.2.2.1 y.1 y.2.1 y.2.2.1 y.2.2.2.1 y.2.2.2.2 x.2.2.2.1) (enc:=fun (y:Int × BA × Int × Int × qAt)=>zbh_d0.e ((x.1.1,x.1.2.1,x.1.2.2.1,y.1,x.1.2.2.2.2),((y.2.1,y.2.2.1,y.2.2.2.1,x.2.1.2.2.2),y.2.2.2.2,x.2.2.2))) (fun y=>by kernel_rfl) (fun y ki=>by simp only [qC3,-eq_self,qAc,qAe,obA,obS,slL,slR,qAd]; kernel_rfl) (x.1.2.2.2.1,x.2.1.1,x.2.1.2.1,x.2.1.2.2.1,x.2.2.1)
theorem zbh_subs:qBp zbh_L zbh_G 2 10 45 zbh_q:=qBt (show qAu zbh_L zbh_G 2 10 45 [(0,zbh_b0),(1,zbh_b1),(2,zbh_b2)] from ⟨zbh_sub0,zbh_sub1,zbh_sub2,tV⟩)
def zbh_c:CSP:=mkP (qAa (dVC (dCO (dH 0 0))) dNil) (qAa qG3 (qAa qB8 dNil)) (fun x y=>zbh_s (⟨y.1.1,y.1.2.1,y.1.2.2.1,y.2.1⟩:rules_parser)) (fun x y r=>.c (.o (.vI r.2))) fun x y r=>[.cells 33 [.vS r.1.text,.vI r.1.at_,.vI r.1.open_,.bsl 1],.bag qAk 44 r.1.out]
theorem zbh_val:qC8 Tryz.prog 31 zbh_c:=qG1 zbh_chk 10 zbh_Gok 2 (fun x=>Nat.le_of_ble_eq_true rfl) (fun y=>rfl) zbh_subs fun x y=>by
 simp only [zbh_s,-eq_self,qAc,qAe,obA,obS,slL,slR,qAd];kernel_rfl
def zbh_w:CQ:=qBh [(0,some 3,some ((.bag qAk),44))] (liftP false [true,true] zbh_c)
theorem zbh_ok:qAg Tryz.prog 31 zbh_w:=qD5 zbh_val
def zbq_b1:IQ:=(.join [] [] (.seq (rg 0 (rF 53 t0 1++[oM 57 t5,oP 58 (.lenS t57),oP 59 (.bi .add t56 t58)]++rS 60 t53 1 t59)) (rg 0 ([oM 62 t1,oM 63 t1,oM 64 t5]++rS 65 t62 4 (vI 4)++rS 67 t63 5 t64))))
def zbq_b0:IQ:=(.join [] [] (.cond t29 (.seq (rg 5 [oM 46 t0,oP 47 (.call 33 [t46,(.v (.func (.func 44) #[] #[]))]),oM 5 t47]) (.seq (.seq (rg 50 [oM 48 t5,oP 49 (.call 45 [t48]),oP 50 (.un .not t49)]) (.cond t50 (rg 52 [oM 51 t0,oP 52 (.call 10 [t51])]) .skip)) (.cn [0,1,5] (.sub 1 zbq_b1)))) (.seq (rg 69 [oM 70 t0,oP 71 (.call 16 [t70,(.v (.string ⟨#[116,114,117,101]⟩))]),oM 69 t71]) (.cond t69 (rg 0 ([oM 72 t1]++rS 73 t72 4 (vI 3))) (.seq (rg 75 [oM 76 t0,oP 77 (.call 16 [t76,(.v (.string ⟨#[102,97,108,115,101]⟩))]),oM 75 t77]) (.cond t75 (rg 0 ([oM 78 t1]++rS 79 t78 4 (vI 2))) (.seq (rg 81 [oM 82 t0,oP 83 (.call 16 [t82,(.v (.string ⟨#[110,117,108,108]⟩))]),oM 81 t83]) (.cond t81 (rg 0 ([oM 84 t1]++rS 85 t84 4 (vI 1))) (rg 9 [oM 8 t0,oP 9 (.call 10 [t8])])))))))))
def zbq_q:IQ:=(.join [] [] (.seq (rg 4 [oM 6 t0,oP 7 (.call 9 [t6]),oM 4 t7]) (.block 0 (.seq (rg 10 [oM 11 t4,oP 12 (.bi .eql t11 (vI 3)),oM 10 t12]) (.cond t10 (rg 0 ([oM 13 t1,oM 14 t1,oM 15 t0,oP 16 (.call 43 [t15])]++rS 17 t13 4 (vI 5)++rS 19 t14 5 t16)) (.seq (rg 21 (rF 22 t1 0++[oP 26 (.bi .eql t25 (vI 11)),oM 21 t26])) (.cond t21 (rg 28 [oM 27 t0,oP 28 (.call 10 [t27])]) (.seq (.seq (rg 29 [oM 30 t4,oP 31 (.bi .eql t30 (vI 2)),oM 29 t31]) (.cond t29 .skip (.reg 29 (some [0,1,2,3,4,5,6,7,8,9,10,11,12,13,14]) ([oM 32 t4,oP 33 (.bi .eql t32 (vI 4)),oM 34 t33]++rH oF 35 t0 0 34++rH oF 39 t0 1 34++[oF 43 (.index t38 t42) 34,oF 44 (.bi .eql t43 (vC 45)) 34,oP 45 (.pick t34 t44 vF),oM 29 t45])))) (.cn [0,1,29] (.sub 0 zbq_b0))))))))))
theorem zbq_chk:chk Tryz.prog 32 []=some (zbq_q.erase,[],87):=by kernel_rfl
def zbq_p1 (s:BA) (p_at:Int):Option (Int × Int) :=
 gd (qAf (p_at+(s.size:Int))) <|
 some ((p_at+(s.size:Int)),(4:Int))
def zbq_p0 (x29_:Bool) (p_text:BA) (p_at p_open qIb:Int) (qH8:BA) (p_out:qAt):Option ((BA × Int × Int × Int × BA × qAt) ⊕ PV) :=
 bif x29_ then (
  (zbo_s (⟨p_text,p_at,p_open,p_out⟩:rules_parser) ()).bind fun r61 =>
  (zaa_s r61).bind fun r62 =>
  bif (!r62) then (
   (zbb_s (⟨p_text,p_at,p_open,p_out⟩:rules_parser)).bind fun o64=>(Sum.elim (fun (r63:Unit) =>
    (zbq_p1 r61 p_at).bind fun o66 =>
    some (.inl (p_text,o66.1,p_open,o66.2,r61,p_out))) (fun (q65:PV) =>
    some (.inr q65))) o64)
  else (
   (zbq_p1 r61 p_at).bind fun o67 =>
   some (.inl (p_text,o67.1,p_open,o67.2,r61,p_out))))
 else (
  (zbc_s (⟨p_text,p_at,p_open,p_out⟩:rules_parser) (⟨#[116,114,117,101]⟩:BA)).bind fun r68 =>
  bif r68.2 then (
   some (.inl (r68.1.text,r68.1.at_,r68.1.open_,(3:Int),qH8,r68.1.out)))
  else (
   (zbc_s r68.1 (⟨#[102,97,108,115,101]⟩:BA)).bind fun r69 =>
   bif r69.2 then (
    some (.inl (r69.1.text,r69.1.at_,r69.1.open_,(2:Int),qH8,r69.1.out)))
   else (
    (zbc_s r69.1 (⟨#[110,117,108,108]⟩:BA)).bind fun r70 =>
    bif r70.2 then (
     some (.inl (r70.1.text,r70.1.at_,r70.1.open_,(1:Int),qH8,r70.1.out)))
    else (
     (zbb_s r70.1).bind fun o72=>(Sum.elim (fun (r71:Unit) =>
      some (.inl (r70.1.text,r70.1.at_,r70.1.open_,qIb,qH8,r70.1.out))) (fun (q73:PV) =>
      some (.inr q73))) o72))))
def zbq_s (p:rules_parser) (n:qHq):Option ((rules_parser × qHq) ⊕ PV) :=
 (zbf_s p).bind fun r54 =>
 bif decide (r54.2=(3:Int)) then (
  (zbk_s r54.1).bind fun o56=>(Sum.elim (fun (r55:rules_parser × BA) =>
   some (.inl (r55.1,{n with value:=(5:Int),text:=r55.2:qHq}))) (fun (q57:PV) =>
   some (.inr q57))) o56)
 else (
  bif decide (n.op=(11:Int)) then (
   (zbb_s r54.1).bind fun o59=>(Sum.elim (fun (r58:Unit) =>
    some (.inl (r54.1,n))) (fun (q60:PV) =>
    some (.inr q60))) o59)
  else (
   bif decide (r54.2=(2:Int)) then (
    (zbq_p0 (decide (r54.2=(2:Int))) r54.1.text r54.1.at_ r54.1.open_ n.value n.text r54.1.out).bind fun o74=>(Sum.elim (fun (o74_0:BA × Int × Int × Int × BA × qAt) =>
     some (.inl ((⟨o74_0.1,o74_0.2.1,o74_0.2.2.1,o74_0.2.2.2.2.2⟩:rules_parser),{n with value:=o74_0.2.2.2.1,text:=o74_0.2.2.2.2.1:qHq}))) (fun (o74_1:PV) =>
     some (.inr o74_1))) o74)
   else (
    gd ((decide (r54.2=(4:Int)))=true→0≤r54.1.at_∧r54.1.at_<r54.1.text.size) <|
    (zbq_p0 ((decide (r54.2=(4:Int))) && (decide ((bAt r54.1.text r54.1.at_)=(45:Int)))) r54.1.text r54.1.at_ r54.1.open_ n.value n.text r54.1.out).bind fun o75=>(Sum.elim (fun (o75_0:BA × Int × Int × Int × BA × qAt) =>
     some (.inl ((⟨o75_0.1,o75_0.2.1,o75_0.2.2.1,o75_0.2.2.2.2.2⟩:rules_parser),{n with value:=o75_0.2.2.2.1,text:=o75_0.2.2.2.2.1:qHq}))) (fun (o75_1:PV) =>
     some (.inr o75_1))) o75)))
def zbq_G:Nat→Option CQ:=tblQ [(9,zbf_w),(43,zbk_w),(10,zbb_w),(33,zbo_w),(45,zaa_w),(16,zbc_w)]
theorem zbq_Gok:∀f C,zbq_G f=some C→qAg Tryz.prog f C:=qAl ⟨zbf_ok,zbk_ok,zbb_ok,zbo_ok,zaa_ok,zbc_ok,tV⟩
def zDRP9:=(qAa (qEr 44 (qAa dZ (qAa dZ (qAa dZ (qAa (dO 3) (qAa dZ (qAa dS dNil))))))) (qAa qB8 (qAa (dView .str) dNil)))
def zbq_d1:=(dQS (qAa (dSO 0 (dH 0 0)) (qAa (dSO 1 (dH 1 0)) (qAa (dSO 5 dS) dNil))) (qAa zDRP5 zDRP9))
def zbq_l1:SubQ:=mkL zbq_d1 (fun x=>zbq_p1 x.1.2.2.1 x.2.1.2.1) fun x r R kn kx kr=>kn ⟨[],[],[.cells 33 [.vS x.2.1.1,.vI r.1,.vI x.2.1.2.2.1,.bsl 2],.cells 44 [.vI x.2.2.1.1,.vI x.2.2.1.2.1,.vI x.2.2.1.2.2.1,.own 3,.vI r.2,.vS x.1.2.2.1],.bag qAk 44 x.2.2.2.1,.view .str x.2.2.2.2.1]⟩
def zbq_d0:=(dQS (qAa (dSO 0 (dH 0 0)) (qAa (dSO 1 (dH 1 0)) (qAa (dSO 29 dB) dNil))) (qAa zDRP5 zDRP9))
def zbq_l0:SubQ:=mkL zbq_d0 (fun x=>zbq_p0 x.1.2.2.1 x.2.1.1 x.2.1.2.1 x.2.1.2.2.1 x.2.2.1.2.2.2.2.1 x.2.2.1.2.2.2.2.2.1 x.2.2.2.1) fun x r R kn kx kr=>(Sum.elim (fun (r_0:BA × Int × Int × Int × BA × qAt)=>kn ⟨[],[],[.cells 33 [.vS r_0.1,.vI r_0.2.1,.vI r_0.2.2.1,.bsl 2],.cells 44 [.vI x.2.2.1.1,.vI x.2.2.1.2.1,.vI x.2.2.1.2.2.1,.own 3,.vI r_0.2.2.2.1,.vS r_0.2.2.2.2.1],.bag qAk 44 r_0.2.2.2.2.2,.view .str x.2.2.2.2.1]⟩) (fun (r_1:PV)=>kx 1000000007 (panS r_1))) r
def zbq_L:Nat→SubQ:=tblL [(1,zbq_l1),(0,zbq_l0)]
theorem zbq_sub1:qA0 zbq_L zbq_G 4 6 87 1 zbq_b1:=qAp (show zbq_L 1=zbq_l1 from by kernel_rfl) fun x R kn kx kr=>by
 simp only [zbq_p1,-eq_self,qAc,qAe,obA,obS,slL,slR,qAd];kernel_rfl
theorem zbq_sub0:qA0 zbq_L zbq_G 4 6 87 0 zbq_b0:=qAp (show zbq_L 0=zbq_l0 from by kernel_rfl) fun x R kn kx kr=>by
 simp only [zbq_p0,-eq_self,qAc,qAe,obA,obS,slL,slR,qAd];kernel_rfl
theorem zbq_subs:qBp zbq_L zbq_G 4 6 87 zbq_q:=qBt (show qAu zbq_L zbq_G 4 6 87 [(0,zbq_b0),(1,zbq_b1)] from ⟨zbq_sub0,zbq_sub1,tV⟩)
def zbq_c:CSP:=mkP (qAa (dVC (dCO (dH 0 0))) (qAa (dVC (dCO (dH 1 0))) dNil)) (qAa zDRP5 zDRP9) (fun x y=>zbq_s (⟨y.1.1,y.1.2.1,y.1.2.2.1,y.2.2.1⟩:rules_parser) (⟨y.2.1.1,y.2.1.2.1,y.2.1.2.2.1,y.2.2.2.1,y.2.1.2.2.2.2.1,y.2.1.2.2.2.2.2.1⟩:qHq)) (fun x y r=>.tup []) fun x y r=>[.cells 33 [.vS r.1.text,.vI r.1.at_,.vI r.1.open_,.bsl 2],.cells 44 [.vI r.2.op,.vI r.2.a,.vI r.2.b,.own 3,.vI r.2.value,.vS r.2.text],.bag qAk 44 r.1.out,.view .str y.2.2.2.1]
theorem zbq_val:qC8 Tryz.prog 32 zbq_c:=qG1 zbq_chk 6 zbq_Gok 4 (fun x=>Nat.le_of_ble_eq_true rfl) (fun y=>rfl) zbq_subs fun x y=>by
 simp only [zbq_s,-eq_self,qAc,qAe,obA,obS,slL,slR,qAd];kernel_rfl
def zbq_w:CQ:=qBh [(0,some 3,some ((.bag qAk),44)),(1,some 3,some (.str,9))] (liftP false [true,true,true,false] zbq_c)
theorem zbq_ok:qAg Tryz.prog 32 zbq_w:=qD5 zbq_val
def zay_da:=(qAa (dVC (dCO (dH 0 0))) dNil)
def zay_db:=(qAa qG3 (qAa qB8 dNil))
def zay_cs (self:rules_parser→Option ((rules_parser × Int) ⊕ PV)):CSP:=mkP zay_da zay_db (fun x y=>self (⟨y.1.1,y.1.2.1,y.1.2.2.1,y.2.1⟩:rules_parser)) (fun x y r=>.c (.o (.vI r.2))) fun x y r=>[.cells 33 [.vS r.1.text,.vI r.1.at_,.vI r.1.open_,.bsl 2],.dead,.bag qAk 44 r.1.out]
def zay_ws (self:rules_parser→Option ((rules_parser × Int) ⊕ PV)):CQ:=qBh [(0,some 3,some ((.bag qAk),44))] (liftP false [true,true] (zay_cs self))
def zaz_b0:IQ:=(.loop [0,3] (.seq (.seq (rg 8 [oM 7 t0,oP 8 (.call 16 [t7,(.v (.string ⟨#[97,110,100]⟩))])]) (.cond t8 .skip (.cn [3] (.exit 0)))) (.block 1 (.seq (rg 4 [oM 9 t0,oP 10 (.call 22 [t9]),oM 4 t10]) (rg 3 [oM 11 t0,oM 12 t3,oM 13 t4,oP 14 (.build [.int .i64 0,.int .i64 0,.int .i64 0,.slice none 0 0,.int .i64 0,.string ⟨#[]⟩] [(0,1,(vI 1)),(1,1,t12),(2,1,t13)]),oP 15 (.call 17 [t11,t14]),oM 3 t15])))))
def zaz_q:IQ:=(.seq (rg 2 [oP 2 (.mv (vI 0))]) (.seq (rg 3 [oM 5 t0,oP 6 (.call 22 [t5]),oM 3 t6]) (.seq (.block 0 (.cn [0,3] (.sub 0 zaz_b0))) (.seq (rg 2 [oM 16 t3,oM 2 t16]) (.cn [2] .ret)))))
theorem zaz_chk:chk Tryz.prog 15 []=some (zaz_q.erase,[.tmp 2],17):=by kernel_rfl
def qEg (self:rules_parser→Option ((rules_parser × Int) ⊕ PV)) (a:Int) (p_text:BA) (p_at p_open:Int) (p_out:qAt):Option ((Int × BA × Int × Int × qAt) ⊕ (PV ⊕ (Int × BA × Int × Int × qAt))) :=
 (zbc_s (⟨p_text,p_at,p_open,p_out⟩:rules_parser) (⟨#[97,110,100]⟩:BA)).bind fun r53 =>
 bif r53.2 then (
  (self r53.1).bind fun o55=>(Sum.elim (fun (r54:rules_parser × Int) =>
   (zbg_s r54.1 (⟨(1:Int),a,r54.2,[],(0:Int),(⟨#[]⟩:BA)⟩:qHq)).bind fun r57 =>
   some (.inl (r57.2,r57.1.text,r57.1.at_,r57.1.open_,r57.1.out))) (fun (q56:PV) =>
   some (.inr (.inl q56)))) o55)
 else (
  some (.inr (.inr (a,r53.1.text,r53.1.at_,r53.1.open_,r53.1.out))))
def zaz_p0 (self:rules_parser→Option ((rules_parser × Int) ⊕ PV)) (a:Int) (p_text:BA) (p_at p_open:Int) (p_out:qAt):Option (PV ⊕ (Int × BA × Int × Int × qAt)) :=
 qAw (fun x:(Int × BA × Int × Int × qAt)=>qEg self x.1 x.2.1 x.2.2.1 x.2.2.2.1 x.2.2.2.2) (a,p_text,p_at,p_open,p_out)
def zaz_t (self:rules_parser→Option ((rules_parser × Int) ⊕ PV)) (p:rules_parser):Option ((rules_parser × Int) ⊕ PV) :=
 (self p).bind fun o51=>(Sum.elim (fun (r50:rules_parser × Int) =>
  (zaz_p0 self r50.2 r50.1.text r50.1.at_ r50.1.open_ r50.1.out).bind fun o58=>(Sum.elim (fun (o58_0:PV) =>
   some (.inr o58_0)) (fun (o58_1:Int × BA × Int × Int × qAt) =>
   some (.inl ((⟨o58_1.2.1,o58_1.2.2.1,o58_1.2.2.2.1,o58_1.2.2.2.2⟩:rules_parser),o58_1.1)))) o58) (fun (q52:PV) =>
  some (.inr q52))) o51
def zaz_G (self:rules_parser→Option ((rules_parser × Int) ⊕ PV)):Nat→Option CQ:=tblQ [(22,zay_ws self),(16,zbc_w),(17,zbg_w)]
theorem zaz_Gok (self:rules_parser→Option ((rules_parser × Int) ⊕ PV)) (hself:qAg Tryz.prog 22 (zay_ws self)):∀f C,(zaz_G self) f=some C→qAg Tryz.prog f C:=qAl ⟨hself,zbc_ok,zbg_ok,tV⟩
def zDRP15:=(qAa dDead (qAa qB8 dNil))
def zaz_d0:=(dQS zDRP6 (qAa zDRP5 zDRP15))
def zaz_l0 (self:rules_parser→Option ((rules_parser × Int) ⊕ PV)):SubQ:=mkL zaz_d0 (fun x=>zaz_p0 self x.1.2.1 x.2.1.1 x.2.1.2.1 x.2.1.2.2.1 x.2.2.2.1) fun x r R kn kx kr=>(Sum.elim (fun (r_0:PV)=>kx 1000000007 (panS r_0)) (fun (r_1:Int × BA × Int × Int × qAt)=>kx 0 ⟨[sL 3 (.vI r_1.1)],[],[.cells 33 [.vS r_1.2.1,.vI r_1.2.2.1,.vI r_1.2.2.2.1,.bsl 2],.dead,.bag qAk 44 r_1.2.2.2.2]⟩)) r
def zaz_L (self:rules_parser→Option ((rules_parser × Int) ⊕ PV)):Nat→SubQ:=tblL [(0,zaz_l0 self)]
theorem zaz_sub0 (self:rules_parser→Option ((rules_parser × Int) ⊕ PV)):qA0 (zaz_L self) (zaz_G self) 2 5 17 0 zaz_b0:=qAp (show (zaz_L self) 0=(zaz_l0 self) from by kernel_rfl) fun x R kn kx kr=>qAm (step:=fun y=>qEg self y.1 y.2.1 y.2.2.1 y.2.2.2.1 y.2.2.2.2) (enc:=fun (y:Int × BA × Int × Int × qAt)=>zaz_d0.e ((x.1.1,y.1,x.1.2.2),((y.2.1,y.2.2.1,y.2.2.2.1,x.2.1.2.2.2),x.2.2.1,y.2.2.2.2,x.2.2.2.2))) (fun y=>by kernel_rfl) (fun y ki=>by simp only [qEg,-eq_self,qAc,qAe,obA,obS,slL,slR,qAd]; kernel_rfl) (x.1.2.1,x.2.1.1,x.2.1.2.1,x.2.1.2.2.1,x.2.2.2.1)
theorem zaz_subs (self:rules_parser→Option ((rules_parser × Int) ⊕ PV)):qBp (zaz_L self) (zaz_G self) 2 5 17 zaz_q:=qBt (show qAu (zaz_L self) (zaz_G self) 2 5 17 [(0,zaz_b0)] from ⟨(zaz_sub0 self),tV⟩)
def zaz_da:=(qAa (dVC (dCO (dH 0 0))) dNil)
def zaz_db:=(qAa qG3 (qAa qB8 dNil))
def zaz_ct (self:rules_parser→Option ((rules_parser × Int) ⊕ PV)):CSP:=mkP zaz_da zaz_db (fun x y=>zaz_t self (⟨y.1.1,y.1.2.1,y.1.2.2.1,y.2.1⟩:rules_parser)) (fun x y r=>.c (.o (.vI r.2))) fun x y r=>[.cells 33 [.vS r.1.text,.vI r.1.at_,.vI r.1.open_,.bsl 2],.dead,.bag qAk 44 r.1.out]
theorem zaz_val_t (self:rules_parser→Option ((rules_parser × Int) ⊕ PV)) (hself:qAg Tryz.prog 22 (zay_ws self)):qC8 Tryz.prog 15 (zaz_ct self):=qG1 zaz_chk 5 (zaz_Gok self hself) 2 (fun x=>Nat.le_of_ble_eq_true rfl) (fun y=>rfl) (zaz_subs self) fun x y=>by
 simp only [zaz_t,-eq_self,qAc,qAe,obA,obS,slL,slR,qAd];kernel_rfl
def zaz_wt (self:rules_parser→Option ((rules_parser × Int) ⊕ PV)):CQ:=qBh [(0,some 3,some ((.bag qAk),44))] (liftP false [true,true] (zaz_ct self))
theorem zaz_okt (self:rules_parser→Option ((rules_parser × Int) ⊕ PV)) (hself:qAg Tryz.prog 22 (zay_ws self)):qAg Tryz.prog 15 (zaz_wt self):=qD5 (zaz_val_t self hself)
def zbl_b0:IQ:=(.loop [0,3] (.seq (.seq (rg 8 [oM 7 t0,oP 8 (.call 16 [t7,(.v (.string ⟨#[111,114]⟩))])]) (.cond t8 .skip (.cn [3] (.exit 0)))) (.block 1 (.seq (rg 4 [oM 9 t0,oP 10 (.call 15 [t9]),oM 4 t10]) (rg 3 [oM 11 t0,oM 12 t3,oM 13 t4,oP 14 (.build [.int .i64 0,.int .i64 0,.int .i64 0,.slice none 0 0,.int .i64 0,.string ⟨#[]⟩] [(0,1,(vI 2)),(1,1,t12),(2,1,t13)]),oP 15 (.call 17 [t11,t14]),oM 3 t15])))))
def zbl_q:IQ:=(.seq (rg 2 [oP 2 (.mv (vI 0))]) (.seq (rg 3 [oM 5 t0,oP 6 (.call 15 [t5]),oM 3 t6]) (.seq (.block 0 (.cn [0,3] (.sub 0 zbl_b0))) (.seq (rg 2 [oM 16 t3,oM 2 t16]) (.cn [2] .ret)))))
theorem zbl_chk:chk Tryz.prog 8 []=some (zbl_q.erase,[.tmp 2],17):=by kernel_rfl
def qEi (self:rules_parser→Option ((rules_parser × Int) ⊕ PV)) (a:Int) (p_text:BA) (p_at p_open:Int) (p_out:qAt):Option ((Int × BA × Int × Int × qAt) ⊕ (PV ⊕ (Int × BA × Int × Int × qAt))) :=
 (zbc_s (⟨p_text,p_at,p_open,p_out⟩:rules_parser) (⟨#[111,114]⟩:BA)).bind fun r53 =>
 bif r53.2 then (
  (zaz_t self r53.1).bind fun o55=>(Sum.elim (fun (r54:rules_parser × Int) =>
   (zbg_s r54.1 (⟨(2:Int),a,r54.2,[],(0:Int),(⟨#[]⟩:BA)⟩:qHq)).bind fun r57 =>
   some (.inl (r57.2,r57.1.text,r57.1.at_,r57.1.open_,r57.1.out))) (fun (q56:PV) =>
   some (.inr (.inl q56)))) o55)
 else (
  some (.inr (.inr (a,r53.1.text,r53.1.at_,r53.1.open_,r53.1.out))))
def zbl_p0 (self:rules_parser→Option ((rules_parser × Int) ⊕ PV)) (a:Int) (p_text:BA) (p_at p_open:Int) (p_out:qAt):Option (PV ⊕ (Int × BA × Int × Int × qAt)) :=
 qAw (fun x:(Int × BA × Int × Int × qAt)=>qEi self x.1 x.2.1 x.2.2.1 x.2.2.2.1 x.2.2.2.2) (a,p_text,p_at,p_open,p_out)
def zbl_t (self:rules_parser→Option ((rules_parser × Int) ⊕ PV)) (p:rules_parser):Option ((rules_parser × Int) ⊕ PV) :=
 (zaz_t self p).bind fun o51=>(Sum.elim (fun (r50:rules_parser × Int) =>
  (zbl_p0 self r50.2 r50.1.text r50.1.at_ r50.1.open_ r50.1.out).bind fun o58=>(Sum.elim (fun (o58_0:PV) =>
   some (.inr o58_0)) (fun (o58_1:Int × BA × Int × Int × qAt) =>
   some (.inl ((⟨o58_1.2.1,o58_1.2.2.1,o58_1.2.2.2.1,o58_1.2.2.2.2⟩:rules_parser),o58_1.1)))) o58) (fun (q52:PV) =>
  some (.inr q52))) o51
def zbl_G (self:rules_parser→Option ((rules_parser × Int) ⊕ PV)):Nat→Option CQ:=tblQ [(15,zaz_wt self),(16,zbc_w),(17,zbg_w)]
theorem zbl_Gok (self:rules_parser→Option ((rules_parser × Int) ⊕ PV)) (hself:qAg Tryz.prog 22 (zay_ws self)):∀f C,(zbl_G self) f=some C→qAg Tryz.prog f C:=qAl ⟨zaz_okt self hself,zbc_ok,zbg_ok,tV⟩
def zbl_d0:=(dQS zDRP6 (qAa zDRP5 zDRP15))
def zbl_l0 (self:rules_parser→Option ((rules_parser × Int) ⊕ PV)):SubQ:=mkL zbl_d0 (fun x=>zbl_p0 self x.1.2.1 x.2.1.1 x.2.1.2.1 x.2.1.2.2.1 x.2.2.2.1) fun x r R kn kx kr=>(Sum.elim (fun (r_0:PV)=>kx 1000000007 (panS r_0)) (fun (r_1:Int × BA × Int × Int × qAt)=>kx 0 ⟨[sL 3 (.vI r_1.1)],[],[.cells 33 [.vS r_1.2.1,.vI r_1.2.2.1,.vI r_1.2.2.2.1,.bsl 2],.dead,.bag qAk 44 r_1.2.2.2.2]⟩)) r
def zbl_L (self:rules_parser→Option ((rules_parser × Int) ⊕ PV)):Nat→SubQ:=tblL [(0,zbl_l0 self)]
theorem zbl_sub0 (self:rules_parser→Option ((rules_parser × Int) ⊕ PV)):qA0 (zbl_L self) (zbl_G self) 2 5 17 0 zbl_b0:=qAp (show (zbl_L self) 0=(zbl_l0 self) from by kernel_rfl) fun x R kn kx kr=>qAm (step:=fun y=>qEi self y.1 y.2.1 y.2.2.1 y.2.2.2.1 y.2.2.2.2) (enc:=fun (y:Int × BA × Int × Int × qAt)=>zbl_d0.e ((x.1.1,y.1,x.1.2.2),((y.2.1,y.2.2.1,y.2.2.2.1,x.2.1.2.2.2),x.2.2.1,y.2.2.2.2,x.2.2.2.2))) (fun y=>by kernel_rfl) (fun y ki=>by simp only [qEi,-eq_self,qAc,qAe,obA,obS,slL,slR,qAd]; kernel_rfl) (x.1.2.1,x.2.1.1,x.2.1.2.1,x.2.1.2.2.1,x.2.2.2.1)
theorem zbl_subs (self:rules_parser→Option ((rules_parser × Int) ⊕ PV)):qBp (zbl_L self) (zbl_G self) 2 5 17 zbl_q:=qBt (show qAu (zbl_L self) (zbl_G self) 2 5 17 [(0,zbl_b0)] from ⟨(zbl_sub0 self),tV⟩)
def zbl_da:=(qAa (dVC (dCO (dH 0 0))) dNil)
def zbl_db:=(qAa qG3 (qAa qB8 dNil))
def zbl_ct (self:rules_parser→Option ((rules_parser × Int) ⊕ PV)):CSP:=mkP zbl_da zbl_db (fun x y=>zbl_t self (⟨y.1.1,y.1.2.1,y.1.2.2.1,y.2.1⟩:rules_parser)) (fun x y r=>.c (.o (.vI r.2))) fun x y r=>[.cells 33 [.vS r.1.text,.vI r.1.at_,.vI r.1.open_,.bsl 2],.dead,.bag qAk 44 r.1.out]
theorem zbl_val_t (self:rules_parser→Option ((rules_parser × Int) ⊕ PV)) (hself:qAg Tryz.prog 22 (zay_ws self)):qC8 Tryz.prog 8 (zbl_ct self):=qG1 zbl_chk 5 (zbl_Gok self hself) 2 (fun x=>Nat.le_of_ble_eq_true rfl) (fun y=>rfl) (zbl_subs self) fun x y=>by
 simp only [zbl_t,-eq_self,qAc,qAe,obA,obS,slL,slR,qAd];kernel_rfl
def zbl_wt (self:rules_parser→Option ((rules_parser × Int) ⊕ PV)):CQ:=qBh [(0,some 3,some ((.bag qAk),44))] (liftP false [true,true] (zbl_ct self))
theorem zbl_okt (self:rules_parser→Option ((rules_parser × Int) ⊕ PV)) (hself:qAg Tryz.prog 22 (zay_ws self)):qAg Tryz.prog 8 (zbl_wt self):=qD5 (zbl_val_t self hself)
def zay_q:IQ:=(.seq (rg 2 [oP 2 (.mv (vI 0))]) (.seq (rg 8 [oM 7 t0,oP 8 (.call 9 [t7])]) (.seq (rg 3 (rF 9 t0 1++[oM 3 t12])) (.seq (.block 0 (.seq (rg 13 [oM 14 t0,oP 15 (.call 16 [t14,(.v (.string ⟨#[110,111,116]⟩))]),oM 13 t15]) (.cond t13 (.seq (rg 18 [oM 16 t0,oM 17 t3,oP 18 (.call 28 [t16,t17])]) (.seq (rg 4 [oM 19 t0,oP 20 (.call 22 [t19]),oM 4 t20]) (.seq (rg 0 (rF 21 t0 2++[oP 25 (.bi .sub t24 (vI 1))]++rS 26 t21 2 t25)) (.seq (rg 2 [oM 28 t0,oM 29 t4,oP 30 (.build [.int .i64 0,.int .i64 0,.int .i64 0,.slice none 0 0,.int .i64 0,.string ⟨#[]⟩] [(0,1,(vI 3)),(1,1,t29),(2,1,(.v (.int .i64 (-1))))]),oP 31 (.call 17 [t28,t30]),oM 2 t31]) (.cn [2] .ret))))) (.seq (rg 32 [oM 33 t0,oP 34 (.call 16 [t33,(.v (.string ⟨#[104,97,115]⟩))]),oM 32 t34]) (.cond t32 (.seq (rg 2 [oM 35 t0,oM 36 t0,oP 37 (.call 29 [t36]),oP 38 (.build [.int .i64 0,.int .i64 0,.int .i64 0,.slice none 0 0,.int .i64 0,.string ⟨#[]⟩] [(0,1,(vI 4)),(1,1,(.v (.int .i64 (-1)))),(2,1,(.v (.int .i64 (-1)))),(3,1,t37)]),oP 39 (.call 17 [t35,t38]),oM 2 t39]) (.cn [2] .ret)) (.seq (rg 40 [oM 41 t0,oP 42 (.call 30 [t41,(vC 40)]),oM 40 t42]) (.cond t40 (.seq (rg 45 [oM 43 t0,oM 44 t3,oP 45 (.call 28 [t43,t44])]) (.seq (rg 5 [oM 46 t0,oP 47 (.call 8 [t46]),oM 5 t47]) (.seq (.seq (rg 50 [oM 48 t0,oP 49 (.call 30 [t48,(vC 41)]),oP 50 (.un .not t49)]) (.cond t50 (rg 52 [oM 51 t0,oP 52 (.call 10 [t51])]) .skip)) (.seq (rg 0 (rF 53 t0 2++[oP 57 (.bi .sub t56 (vI 1))]++rS 58 t53 2 t57)) (.seq (rg 2 [oM 60 t5,oM 2 t60]) (.cn [2] .ret)))))) .skip))))))) (.seq (rg 0 [oM 61 t0,oP 62 (.call 29 [t61]),oP 63 (.build [.int .i64 0,.int .i64 0,.int .i64 0,.slice none 0 0,.int .i64 0,.string ⟨#[]⟩] [(1,1,(.v (.int .i64 (-1)))),(2,1,(.v (.int .i64 (-1)))),(3,1,t62)]),oP 6 (.alloc 44 [.int .i64 0,.int .i64 0,.int .i64 0,.slice none 0 0,.int .i64 0,.string ⟨#[]⟩]),oN (.store 6 t6 t63)]) (.seq (rg 0 [oM 64 t0,oP 65 (.call 31 [t64]),oP 66 (.faddr 0 t6),oN (.store 1 t66 t65)]) (.seq (rg 68 [oM 67 t0,oP 68 (.call 32 [t67,t6])]) (.seq (rg 2 [oM 69 t0,oP 70 (.load (some 6) t6),oP 71 (.call 17 [t69,t70]),oM 2 t71]) (.cn [2] .ret)))))))))
theorem zay_chk:chk Tryz.prog 22 []=some (zay_q.erase,[.tmp 2],72):=by kernel_rfl
def zay_t (self:rules_parser→Option ((rules_parser × Int) ⊕ PV)) (p:rules_parser):Option ((rules_parser × Int) ⊕ PV) :=
 (zbf_s p).bind fun r10 =>
 (zbc_s r10.1 (⟨#[110,111,116]⟩:BA)).bind fun r11 =>
 bif r11.2 then (
  (zba_s r11.1 r10.1.at_).bind fun o13=>(Sum.elim (fun (r12:rules_parser) =>
   (self r12).bind fun o16=>(Sum.elim (fun (r15:rules_parser × Int) =>
    gd (qAf (r15.1.open_ - (1:Int))) <|
    (zbg_s {r15.1 with open_:=(r15.1.open_ - (1:Int)):rules_parser} (⟨(3:Int),r15.2,(-1:Int),[],(0:Int),(⟨#[]⟩:BA)⟩:qHq)).bind fun r18 =>
    some (.inl (r18.1,r18.2))) (fun (q17:PV) =>
    some (.inr q17))) o16) (fun (q14:PV) =>
   some (.inr q14))) o13)
 else (
  (zbc_s r11.1 (⟨#[104,97,115]⟩:BA)).bind fun r19 =>
  bif r19.2 then (
   (zbj_s r19.1).bind fun o21=>(Sum.elim (fun (r20:rules_parser × (List BA)) =>
    (zbg_s r20.1 (⟨(4:Int),(-1:Int),(-1:Int),r20.2,(0:Int),(⟨#[]⟩:BA)⟩:qHq)).bind fun r23 =>
    some (.inl (r23.1,r23.2))) (fun (q22:PV) =>
    some (.inr q22))) o21)
  else (
   (zbp_s r19.1 (40:Int)).bind fun r24 =>
   bif r24.2 then (
    (zba_s r24.1 r10.1.at_).bind fun o26=>(Sum.elim (fun (r25:rules_parser) =>
     (zbl_t self r25).bind fun o29=>(Sum.elim (fun (r28:rules_parser × Int) =>
      (zbp_s r28.1 (41:Int)).bind fun r31 =>
      bif (!r31.2) then (
       (zbb_s r31.1).bind fun o33=>(Sum.elim (fun (r32:Unit) =>
        gd (qAf (r31.1.open_ - (1:Int))) <|
        some (.inl ({r31.1 with open_:=(r31.1.open_ - (1:Int)):rules_parser},r28.2))) (fun (q34:PV) =>
        some (.inr q34))) o33)
      else (
       gd (qAf (r31.1.open_ - (1:Int))) <|
       some (.inl ({r31.1 with open_:=(r31.1.open_ - (1:Int)):rules_parser},r28.2)))) (fun (q30:PV) =>
      some (.inr q30))) o29) (fun (q27:PV) =>
     some (.inr q27))) o26)
   else (
    (zbj_s r24.1).bind fun o36=>(Sum.elim (fun (r35:rules_parser × (List BA)) =>
     (zbh_s r35.1).bind fun o39=>(Sum.elim (fun (r38:rules_parser × Int) =>
      (zbq_s r38.1 (⟨r38.2,(-1:Int),(-1:Int),r35.2,(0:Int),(⟨#[]⟩:BA)⟩:qHq)).bind fun o42=>(Sum.elim (fun (r41:rules_parser × qHq) =>
       (zbg_s r41.1 {r41.2 with path:=r35.2:qHq}).bind fun r44 =>
       some (.inl (r44.1,r44.2))) (fun (q43:PV) =>
       some (.inr q43))) o42) (fun (q40:PV) =>
      some (.inr q40))) o39) (fun (q37:PV) =>
     some (.inr q37))) o36)))
def zay_G (self:rules_parser→Option ((rules_parser × Int) ⊕ PV)):Nat→Option CQ:=tblQ [(9,zbf_w),(16,zbc_w),(28,zba_w),(22,zay_ws self),(17,zbg_w),(29,zbj_w),(30,zbp_w),(8,zbl_wt self),(10,zbb_w),(31,zbh_w),(32,zbq_w)]
theorem zay_Gok (self:rules_parser→Option ((rules_parser × Int) ⊕ PV)) (hself:qAg Tryz.prog 22 (zay_ws self)):∀f C,(zay_G self) f=some C→qAg Tryz.prog f C:=qAl ⟨zbf_ok,zbc_ok,zba_ok,hself,zbg_ok,zbj_ok,zbp_ok,zbl_okt self hself,zbb_ok,zbh_ok,zbq_ok,tV⟩
def zay_L (self:rules_parser→Option ((rules_parser × Int) ⊕ PV)):Nat→SubQ:=tblL []
theorem zay_subs (self:rules_parser→Option ((rules_parser × Int) ⊕ PV)):qBp (zay_L self) (zay_G self) 2 7 72 zay_q:=qBt (show qAu (zay_L self) (zay_G self) 2 7 72 [] from tV)
theorem zay_val_t (self:rules_parser→Option ((rules_parser × Int) ⊕ PV)) (hself:qAg Tryz.prog 22 (zay_ws self)):qC8 Tryz.prog 22 (zay_cs (zay_t self)):=qG1 zay_chk 7 (zay_Gok self hself) 2 (fun x=>Nat.le_of_ble_eq_true rfl) (fun y=>rfl) (zay_subs self) fun x y=>by
 simp only [zay_t,-eq_self,qAc,qAe,obA,obS,slL,slR,qAd];kernel_rfl
def zay_n:Nat→rules_parser→Option ((rules_parser × Int) ⊕ PV)
 | 0=>fun _=>none
 | n+1=>zay_t (zay_n n)
def zay_s (p:rules_parser):Option ((rules_parser × Int) ⊕ PV):=evt fun n=>zay_n n p
theorem zay_valn:∀n,qC8 Tryz.prog 22 (zay_cs (zay_n n))
 | 0=>qC8.zero fun args hp R k kp=>by
  show ((Dec.d zay_da args).bind fun x=>(Dec.d zay_db hp).bind fun y=>none)=none;cases Dec.d zay_da args with
  | none=>rfl
  | some x=>cases Dec.d zay_db hp <;> rfl
 | n+1=>zay_val_t (zay_n n) (qD5 (zay_valn n))
theorem zay_val:qC8 Tryz.prog 22 (zay_cs zay_s):=qC8.evt zay_valn (mkP_nat _ _ _ _ _) fun args hp o h=>by
  obtain ⟨x,h1,h2⟩:=Option.bind_eq_some_iff.1 h;obtain ⟨y,h3,h4⟩:=Option.bind_eq_some_iff.1 h2;obtain ⟨r,h5,h6⟩:=Option.bind_eq_some_iff.1 h4;obtain ⟨n,h7⟩:=evt_some h5;refine ⟨n,?_⟩;show ((Dec.d zay_da args).bind fun x=>(Dec.d zay_db hp).bind fun y=>_)=_;rw [h1];simp only [obS];rw [h3];simp only [obS];exact (congrArg (fun z=>Option.bind z _) h7).trans h6
def zay_w:CQ:=zay_ws zay_s
theorem zay_ok:qAg Tryz.prog 22 zay_w:=qD5 zay_val
def zbl_s (p:rules_parser):Option ((rules_parser × Int) ⊕ PV):=zbl_t zay_s p
def zbl_w:CQ:=zbl_wt zay_s
theorem zbl_ok:qAg Tryz.prog 8 zbl_w:=zbl_okt zay_s zay_ok
def zca_b0:IQ:=(.loop [0] (.seq (.seq (.reg 60 (some [0,1,2,3,4,5,6,7,8,9,10,11,12,13,14,15,16,17,18,19,20,21,22,23,24,25,26,27,28,29,30,31,32,33,34,35,36,37,38,39,40,41,42,43,44,45,46,47,48,49,50,51,52,53,54,55,56,57]) (rF 3 t0 1++rF 7 t0 0++[oP 11 (.lenS t10),oP 12 (.bi .lss t6 t11),oM 13 t12]++rH oF 14 t0 0 13++rH oF 18 t0 1 13++[oF 22 (.index t17 t21) 13,oF 23 (.bi .eql t22 (vC 32)) 13,oF 24 (.mv t23) 13]++rH oE 25 t0 0 24++rH oE 29 t0 1 24++[oE 33 (.index t28 t32) 24,oE 34 (.bi .eql t33 (vC 9)) 24,oF 35 (.pick t24 vT t34) 13,oF 36 (.mv t35) 13]++rH oE 37 t0 0 36++rH oE 41 t0 1 36++[oE 45 (.index t40 t44) 36,oE 46 (.bi .eql t45 (vC 10)) 36,oF 47 (.pick t36 vT t46) 13,oF 48 (.mv t47) 13]++rH oE 49 t0 0 48++rH oE 53 t0 1 48++[oE 57 (.index t52 t56) 48,oE 58 (.bi .eql t57 (vC 13)) 48,oF 59 (.pick t48 vT t58) 13,oP 60 (.pick t13 t59 vF)])) (.cond t60 .skip (.cn [0] (.exit 0)))) (.block 1 (rg 0 (rF 61 t0 1++[oP 65 (.bi .add t64 (vI 1))]++rS 66 t61 1 t65)))))
def zca_q:IQ:=(.seq (rg 2 [oP 2 (.mv vF)]) (.seq (.block 0 (.cn [0] (.sub 0 zca_b0))) (.seq (.reg 2 (some [0,1,2,3,4,5,6,7,8,9,10]) (rF 68 t0 1++rF 72 t0 0++[oP 76 (.lenS t75),oP 77 (.bi .lss t71 t76),oM 2 t77])) (.cn [2] .ret))))
def qEm (qHm:BA) (qHp:Int):Option (Int ⊕ Int) :=
 gd ((decide (qHp<(qHm.size:Int)))=true→0≤qHp∧qHp<qHm.size) <|
 gd ((decide ((bAt qHm qHp)=(32:Int)))=false→(decide (qHp<(qHm.size:Int)))=true→0≤qHp∧qHp<qHm.size) <|
 gd (((decide ((bAt qHm qHp)=(32:Int))) || (decide ((bAt qHm qHp)=(9:Int))))=false→(decide (qHp<(qHm.size:Int)))=true→0≤qHp∧qHp<qHm.size) <|
 gd ((((decide ((bAt qHm qHp)=(32:Int))) || (decide ((bAt qHm qHp)=(9:Int)))) || (decide ((bAt qHm qHp)=(10:Int))))=false→(decide (qHp<(qHm.size:Int)))=true→0≤qHp∧qHp<qHm.size) <|
 bif ((decide (qHp<(qHm.size:Int))) && ((((decide ((bAt qHm qHp)=(32:Int))) || (decide ((bAt qHm qHp)=(9:Int)))) || (decide ((bAt qHm qHp)=(10:Int)))) || (decide ((bAt qHm qHp)=(13:Int))))) then (
  gd (qAf (qHp+(1:Int))) <|
  some (.inl (qHp+(1:Int))))
 else (
  some (.inr qHp))
def zca_p0 (qHm:BA) (qHp:Int):Option Int :=
 qAw (fun x:Int=>qEm qHm x) qHp
def zca_s (r_:qHl):Option (qHl × Bool) :=
 (zca_p0 r_.text r_.at_).bind fun o2 =>
 some ({r_ with at_:=o2:qHl},decide (o2<(r_.text.size:Int)))
def zca_G:Nat→Option CQ:=tblQ []
def zDRP13:=(qAa dZ (qAa dZ (qAa dZ dNil)))
def zDRP2:=(qEr 37 (qAa dS (qAa dZ (qAa (dBsl 1) zDRP13))))
def zDRP8:=(qAa zDRP2 (qAa qB8 dNil))
def zca_d0:=(dQS (qAa (dSO 0 (dH 0 0)) dNil) zDRP8)
def zca_l0:SubQ:=mkL zca_d0 (fun x=>zca_p0 x.2.1.1 x.2.1.2.1) fun x r R kn kx kr=>kx 0 ⟨[sL 0 (.hd 0 0)],[],[.cells 37 [.vS x.2.1.1,.vI r,.bsl 1,.vI x.2.1.2.2.2.1,.vI x.2.1.2.2.2.2.1,.vI x.2.1.2.2.2.2.2.1],.bag qAk 44 x.2.2.1]⟩
def zca_L:Nat→SubQ:=tblL [(0,zca_l0)]
theorem zca_sub0:qA0 zca_L zca_G 2 3 78 0 zca_b0:=qAp (show zca_L 0=zca_l0 from by kernel_rfl) fun x R kn kx kr=>qAm (step:=fun y=>qEm x.2.1.1 y) (enc:=fun (y:Int)=>zca_d0.e (x.1,((x.2.1.1,y,x.2.1.2.2),x.2.2))) (fun y=>by kernel_rfl) (fun y ki=>by simp only [qEm,-eq_self,qAc,qAe,obA,obS,slL,slR,qAd]; kernel_rfl) x.2.1.2.1
def zca_c:CS:=mkC (qAa (dVC (dCO (dH 0 0))) dNil) (qAa zDRP2 (qAa qB8 dNil)) (fun x y=>zca_s (⟨y.1.1,y.1.2.1,y.2.1,y.1.2.2.2.1,y.1.2.2.2.2.1,y.1.2.2.2.2.2.1⟩:qHl)) (fun x y r=>.c (.o (.vB r.2))) fun x y r=>[.cells 37 [.vS r.1.text,.vI r.1.at_,.bsl 1,.vI r.1.open_,.vI r.1.err,.vI r.1.bad],.bag qAk 44 r.1.out]
theorem zca_val:qAj Tryz.prog 12 zca_c:=vl1 zca_q [.tmp 2] 78 3 2 (show qAu zca_L zca_G 2 3 78 [(0,zca_b0)] from ⟨zca_sub0,tV⟩) (fun f C h=>by cases h) fun x y=>by
 simp only [zca_s,-eq_self,qAc,qAe,obA,obS,slL,slR,qAd];kernel_rfl
def zca_w:CQ:=qBh [(0,some 2,some ((.bag qAk),44))] (qBs [true,true] zca_c)
theorem zca_ok:qAg Tryz.prog 12 zca_w:=qAs zca_val
def zcb_q:IQ:=(.join [] [] (.seq (rg 10 (rF 6 t0 4++[oP 10 (.bi .eql t9 (vI 0))])) (.cond t10 (.seq (rg 0 ([oM 11 t0,oM 12 t1]++rS 13 t11 4 t12)) (rg 0 ([oM 15 t0,oM 16 t2]++rS 17 t15 5 t16))) .skip)))
def qF6 (r_:qHl) (e at_:Int):Option qHl :=
 bif decide (r_.err=(0:Int)) then (
  some {r_ with err:=e,bad:=at_:qHl})
 else (
  some r_)
def zcb_c:CS:=mkC (qAa (dVC (dCO (dH 0 0))) (qAa (dVC (dCO dZ)) (qAa (dVC (dCO dZ)) dNil))) (qAa zDRP2 (qAa qB8 dNil)) (fun x y=>qF6 (⟨y.1.1,y.1.2.1,y.2.1,y.1.2.2.2.1,y.1.2.2.2.2.1,y.1.2.2.2.2.2.1⟩:qHl) x.2.1 x.2.2.1) (fun x y r=>.tup []) fun x y r=>[.cells 37 [.vS r.text,.vI r.at_,.bsl 1,.vI r.open_,.vI r.err,.vI r.bad],.bag qAk 44 r.out]
theorem zcb_val:qAj Tryz.prog 13 zcb_c:=vl0 zcb_q [] 19 6 2 [] trivial fun x y=>by
 simp only [qF6,-eq_self,qAc,qAe,obA,obS,slL,slR,qAd];kernel_rfl
def zcb_w:CQ:=qBh [(0,some 2,some ((.bag qAk),44))] (qBs [true,true] zcb_c)
theorem zcb_ok:qAg Tryz.prog 13 zcb_w:=qAs zcb_val
def zcq_q:IQ:=(.seq (rg 2 [oP 2 (.mv vF)]) (.seq (rg 2 [oM 3 t0,oP 4 (.bi .geq t3 (vC 97)),oM 5 t4,oF 6 (.mv t0) 5,oF 7 (.bi .leq t6 (vC 122)) 5,oP 8 (.pick t5 t7 vF),oM 9 t8,oE 10 (.mv t0) 9,oE 11 (.bi .geq t10 (vC 65)) 9,oE 12 (.mv t11) 9,oF 13 (.mv t0) 12,oF 14 (.bi .leq t13 (vC 90)) 12,oE 15 (.pick t12 t14 vF) 9,oP 16 (.pick t9 vT t15),oM 17 t16,oE 18 (.mv t0) 17,oE 19 (.bi .eql t18 (vC 95)) 17,oP 20 (.pick t17 vT t19),oM 2 t20]) (.cn [2] .ret)))
def zcq_s (c:Int):Option Bool :=
 some ((((decide ((97:Int)≤c)) && (decide (c≤(122:Int)))) || ((decide ((65:Int)≤c)) && (decide (c≤(90:Int))))) || (decide (c=(95:Int))))
def zcq_c:CS:=mkC (qAa (dVC (dCO (dI .u8))) dNil) dNil (fun x y=>zcq_s x.1) (fun x y r=>.c (.o (.vB r))) fun x y r=>[]
theorem zcq_val:qAj Tryz.prog 39 zcq_c:=vl0 zcq_q [.tmp 2] 21 3 0 [] trivial fun x y=>by
 simp only [zcq_s,-eq_self,qAc,qAe,obA,obS,slL,slR,qAd];kernel_rfl
def zcq_w:CQ:=qCl [] zcq_c
theorem zcq_ok:qAg Tryz.prog 39 zcq_w:=qAn zcq_val
def zcp_q:IQ:=(.seq (rg 2 [oP 2 (.mv vF)]) (.seq (rg 2 [oM 3 t0,oP 4 (.bi .geq t3 (vC 48)),oM 5 t4,oF 6 (.mv t0) 5,oF 7 (.bi .leq t6 (vC 57)) 5,oP 8 (.pick t5 t7 vF),oM 2 t8]) (.cn [2] .ret)))
def zcp_s (c:Int):Option Bool :=
 some ((decide ((48:Int)≤c)) && (decide (c≤(57:Int))))
def zcp_c:CS:=mkC (qAa (dVC (dCO (dI .u8))) dNil) dNil (fun x y=>zcp_s x.1) (fun x y r=>.c (.o (.vB r))) fun x y r=>[]
theorem zcp_val:qAj Tryz.prog 40 zcp_c:=vl0 zcp_q [.tmp 2] 9 3 0 [] trivial fun x y=>by
 simp only [zcp_s,-eq_self,qAc,qAe,obA,obS,slL,slR,qAd];kernel_rfl
def zcp_w:CQ:=qCl [] zcp_c
theorem zcp_ok:qAg Tryz.prog 40 zcp_w:=qAn zcp_val
def zco_b0:IQ:=(.loop [0,3] (.seq (.seq (rg 32 ([oM 8 t3]++rF 9 t0 0++[oP 13 (.lenS t12),oP 14 (.bi .lss t8 t13),oM 15 t14]++rH oF 16 t0 0 15++[oF 20 (.mv t3) 15,oF 21 (.index t19 t20) 15,oF 22 (.call 39 [t21]) 15,oF 23 (.mv t22) 15]++rH oE 24 t0 0 23++[oE 28 (.mv t3) 23,oE 29 (.index t27 t28) 23,oE 30 (.call 40 [t29]) 23,oF 31 (.pick t23 vT t30) 15,oP 32 (.pick t15 t31 vF)])) (.cond t32 .skip (.cn [0,3] (.exit 0)))) (.block 1 (rg 3 [oM 33 t3,oP 34 (.bi .add t33 (vI 1)),oM 3 t34]))))
def zco_q:IQ:=(.seq (rg 2 [oP 2 (.mv (.v (.string ⟨#[]⟩)))]) (.seq (rg 3 (rF 4 t0 1++[oM 3 t7])) (.seq (.block 0 (.cn [0,3] (.sub 0 zco_b0))) (.seq (.reg 2 (some [0,1,2,3,4,5,6,7,8,9,10]) (rF 35 t0 0++rF 39 t0 1++[oM 43 t3,oP 44 (.sub none t38 (some t42) (some t43)),oM 2 t44])) (.cn [2] .ret)))))
def qF9 (end_:Int) (qHm:BA):Option (Int ⊕ Int) :=
 gd ((decide (end_<(qHm.size:Int)))=true→0≤end_∧end_<qHm.size) <|
 bif decide (end_<(qHm.size:Int)) then (
  (zcq_s (bAt qHm end_)).bind fun r2 =>
  gd (r2=false→0≤end_∧end_<qHm.size) <|
  bif r2 then (
   gd (qAf (end_+(1:Int))) <|
   some (.inl (end_+(1:Int))))
  else (
   (zcp_s (bAt qHm end_)).bind fun r3 =>
   bif r3 then (
    gd (qAf (end_+(1:Int))) <|
    some (.inl (end_+(1:Int))))
   else (
    some (.inr end_))))
 else (
  some (.inr end_))
def zco_p0 (end_:Int) (qHm:BA):Option Int :=
 qAw (fun x:Int=>qF9 x qHm) end_
def zco_s (r_:qHl):Option BA :=
 (zco_p0 r_.at_ r_.text).bind fun o4 =>
 gd (0≤r_.at_∧r_.at_≤o4∧o4≤r_.text.size) <|
 some (r_.text.extract (Int.toNat r_.at_) (Int.toNat o4))
def zco_G:Nat→Option CQ:=tblQ [(39,zcq_w),(40,zcp_w)]
def zco_d0:=(dQS zDRP6 zDRP8)
def zco_l0:SubQ:=mkL zco_d0 (fun x=>zco_p0 x.1.2.1 x.2.1.1) fun x r R kn kx kr=>kx 0 ⟨[sL 0 (.hd 0 0),sL 3 (.vI r)],[],[.cells 37 [.vS x.2.1.1,.vI x.2.1.2.1,.bsl 1,.vI x.2.1.2.2.2.1,.vI x.2.1.2.2.2.2.1,.vI x.2.1.2.2.2.2.2.1],.bag qAk 44 x.2.2.1]⟩
def zco_L:Nat→SubQ:=tblL [(0,zco_l0)]
theorem zco_sub0:qA0 zco_L zco_G 2 4 45 0 zco_b0:=qAp (show zco_L 0=zco_l0 from by kernel_rfl) fun x R kn kx kr=>qAm (step:=fun y=>qF9 y x.2.1.1) (enc:=fun (y:Int)=>zco_d0.e ((x.1.1,y,x.1.2.2),x.2)) (fun y=>by kernel_rfl) (fun y ki=>by simp only [qF9,-eq_self,qAc,qAe,obA,obS,slL,slR,qAd]; kernel_rfl) x.1.2.1
def zco_c:CS:=mkC (qAa (dVC (dCO (dH 0 0))) dNil) (qAa zDRP2 (qAa qB8 dNil)) (fun x y=>zco_s (⟨y.1.1,y.1.2.1,y.2.1,y.1.2.2.2.1,y.1.2.2.2.2.1,y.1.2.2.2.2.2.1⟩:qHl)) (fun x y r=>.c (.o (.vS r))) fun x y r=>[.cells 37 [.vS y.1.1,.vI y.1.2.1,.bsl 1,.vI y.1.2.2.2.1,.vI y.1.2.2.2.2.1,.vI y.1.2.2.2.2.2.1],.bag qAk 44 y.2.1]
theorem zco_val:qAj Tryz.prog 26 zco_c:=vl1 zco_q [.tmp 2] 45 4 2 (show qAu zco_L zco_G 2 4 45 [(0,zco_b0)] from ⟨zco_sub0,tV⟩) (qAl ⟨zcq_ok,zcp_ok,tV⟩) fun x y=>by
 simp only [zco_s,-eq_self,qAc,qAe,obA,obS,slL,slR,qAd];kernel_rfl
def zco_w:CQ:=qBh [(0,some 2,some ((.bag qAk),44))] (qBs [true,true] zco_c)
theorem zco_ok:qAg Tryz.prog 26 zco_w:=qAs zco_val
def zcg_q:IQ:=(.seq (rg 4 [oP 4 (.mv vF)]) (.seq (.seq (rg 9 (rF 5 t0 3++[oP 9 (.bi .eql t8 (vI 32))])) (.cond t9 (.seq (rg 15 ([oM 10 t0]++rF 11 t0 1++[oP 15 (.call 13 [t10,(vI 11),t14])])) (.seq (rg 4 [oP 4 (.mv vF)]) (.cn [4] .ret))) .skip)) (.seq (rg 0 (rF 16 t0 3++[oP 20 (.bi .add t19 (vI 1))]++rS 21 t16 3 t20)) (.seq (rg 0 ([oM 23 t0]++rF 24 t0 1++[oM 28 t1,oP 29 (.bi .add t27 t28)]++rS 30 t23 1 t29)) (.seq (rg 4 [oP 4 (.mv vT)]) (.cn [4] .ret))))))
def zcg_s (r_:qHl) (n:Int):Option (qHl × Bool) :=
 bif decide (r_.open_=(32:Int)) then (
  (qF6 r_ (11:Int) r_.at_).bind fun r2 =>
  some (r2,false))
 else (
  gd (qAf (r_.open_+(1:Int))) <|
  gd (qAf (r_.at_+n)) <|
  some ({r_ with at_:=(r_.at_+n),open_:=(r_.open_+(1:Int)):qHl},true))
def zcg_c:CS:=mkC (qAa (dVC (dCO (dH 0 0))) (qAa (dVC (dCO dZ)) dNil)) (qAa zDRP2 (qAa qB8 dNil)) (fun x y=>zcg_s (⟨y.1.1,y.1.2.1,y.2.1,y.1.2.2.2.1,y.1.2.2.2.2.1,y.1.2.2.2.2.2.1⟩:qHl) x.2.1) (fun x y r=>.c (.o (.vB r.2))) fun x y r=>[.cells 37 [.vS r.1.text,.vI r.1.at_,.bsl 1,.vI r.1.open_,.vI r.1.err,.vI r.1.bad],.bag qAk 44 r.1.out]
theorem zcg_val:qAj Tryz.prog 36 zcg_c:=vl0 zcg_q [.tmp 4] 32 5 2 [(13,zcb_w)] ⟨zcb_ok,tV⟩ fun x y=>by
 simp only [zcg_s,-eq_self,qAc,qAe,obA,obS,slL,slR,qAd];kernel_rfl
def zcg_w:CQ:=qBh [(0,some 2,some ((.bag qAk),44))] (qBs [true,true] zcg_c)
theorem zcg_ok:qAg Tryz.prog 36 zcg_w:=qAs zcg_val
def zce_q:IQ:=(.seq (rg 4 [oP 3 (.box 44 6 t1),oP 4 (.mv (vI 0))]) (.seq (.regT 0 (.one ⟨(some 5),.mv t0,none⟩ (.one ⟨(some 6),.mv t0,none⟩ (.one ⟨(some 7),.nk t6,none⟩ (.one ⟨(some 8),.faddr 2 t7,none⟩ (.one ⟨(some 10),.load (some 6) t3,none⟩ (.wk ⟨(some 9),.load none t8,none⟩ (.one ⟨(some 11),.bslice 44 6 1 [.int .i64 0,.int .i64 0,.int .i64 0,.slice none 0 0,.int .i64 0,.string ⟨#[]⟩] [(0,t10)],none⟩ (.one ⟨(some 12),.append 44 6 72 [.int .i64 0,.int .i64 0,.int .i64 0,.slice none 0 0,.int .i64 0,.string ⟨#[]⟩] t9 t11,none⟩ (.one ⟨(some 13),.nk t5,none⟩ (.one ⟨(some 14),.faddr 2 t13,none⟩ (.one ⟨none,.store 1 t14 t12,none⟩ .fin)))))))))))) (.seq (rg 4 (rF 15 t0 2++[oP 19 (.len t18),oP 20 (.bi .sub t19 (vI 1)),oM 4 t20])) (.cn [4] .ret))))
def zce_s (r_:qHl) (n:qHq):Option (qHl × Int) :=
 gd (r_.out.length+([(n.op,n.a,n.b,n.path,n.value,n.text,())]:qAt).length≤9223372036854775807∧(r_.out.length+([(n.op,n.a,n.b,n.path,n.value,n.text,())]:qAt).length)*72≤140737488355328) <|
 gd (qAf (((r_.out++[(n.op,n.a,n.b,n.path,n.value,n.text,())]).length:Int) - (1:Int))) <|
 some ({r_ with out:=(r_.out++[(n.op,n.a,n.b,n.path,n.value,n.text,())]):qHl},(((r_.out++[(n.op,n.a,n.b,n.path,n.value,n.text,())]).length:Int) - (1:Int)))
def zce_c:CS:=mkC (qAa (dVC (dCO (dH 0 0))) (qAa (dVC (dCA (qAa dZ (qAa dZ (qAa dZ (qAa (dO 1) (qAa dZ (qAa dS dNil)))))))) dNil)) (qAa (qEr 37 (qAa dS (qAa dZ (qAa (dBsl 2) zDRP13)))) (qAa (dRow .str 9) (qAa qB8 dNil))) (fun x y=>zce_s (⟨y.1.1,y.1.2.1,y.2.2.1,y.1.2.2.2.1,y.1.2.2.2.2.1,y.1.2.2.2.2.2.1⟩:qHl) (⟨x.2.1.1,x.2.1.2.1,x.2.1.2.2.1,y.2.1,x.2.1.2.2.2.2.1,x.2.1.2.2.2.2.2.1⟩:qHq)) (fun x y r=>.c (.o (.vI r.2))) fun x y r=>[.cells 37 [.vS r.1.text,.vI r.1.at_,.bsl 3,.vI r.1.open_,.vI r.1.err,.vI r.1.bad],.dead,.dead,.bag qAk 44 r.1.out]
theorem zce_val:qAj Tryz.prog 27 zce_c:=vl0 zce_q [.tmp 4] 21 5 3 [] trivial fun x y=>by
 simp only [zce_s,-eq_self,qAc,qAe,obA,obS,slL,slR,qAd];kernel_rfl
def zce_w:CQ:=qBh [(0,some 2,some ((.bag qAk),44)),(1,some 3,some (.str,9))] (qBs [true,true,true] zce_c)
theorem zce_ok:qAg Tryz.prog 27 zce_w:=qAs zce_val
def zcm_b0:IQ:=(.loop [0,3] (.seq (.seq (rg 27 ([oM 12 t3]++rF 13 t0 0++[oP 17 (.lenS t16),oP 18 (.bi .lss t12 t17),oM 19 t18]++rH oF 20 t0 0 19++[oF 24 (.mv t3) 19,oF 25 (.index t23 t24) 19,oF 26 (.bi .neq t25 (vC 34)) 19,oP 27 (.pick t19 t26 vF)])) (.cond t27 .skip (.cn [0,3] (.exit 0)))) (.block 1 (.seq (.seq (rg 34 (rF 28 t0 0++[oM 32 t3,oP 33 (.index t31 t32),oP 34 (.bi .eql t33 (vC 92))])) (.cond t34 (rg 3 [oM 35 t3,oP 36 (.bi .add t35 (vI 1)),oM 3 t36]) .skip)) (rg 3 [oM 37 t3,oP 38 (.bi .add t37 (vI 1)),oM 3 t38])))))
def zcm_q:IQ:=(.seq (rg 2 [oP 2 (.mv (.v (.string ⟨#[]⟩)))]) (.seq (rg 3 (rF 7 t0 1++[oP 11 (.bi .add t10 (vI 1)),oM 3 t11])) (.seq (.block 0 (.cn [0,3] (.sub 0 zcm_b0))) (.seq (.seq (rg 45 ([oM 39 t3]++rF 40 t0 0++[oP 44 (.lenS t43),oP 45 (.bi .geq t39 t44)])) (.cond t45 (.seq (rg 51 ([oM 46 t0]++rF 47 t0 1++[oP 51 (.call 13 [t46,(vI 180),t50])])) (.seq (rg 2 [oP 2 (.mv (.v (.string ⟨#[]⟩)))]) (.cn [2] .ret))) .skip)) (.seq (.reg 6 (some [0,1,2,3,4,5,6,7,8,9,10,11,12,13,14,15,16,17,18]) (rF 53 t0 0++rF 57 t0 1++[oM 61 t3,oP 62 (.bi .add t61 (vI 1)),oP 63 (.sub none t56 (some t60) (some t62)),oP 64 (.call 65 [t63]),oM 52 t64,oP 65 (.extract t52 0),oP 66 (.extract t52 1),oP 67 (.extract t52 2),oM 4 t65,oM 5 t66,oM 6 t67])) (.seq (.seq (rg 69 [oM 68 t5,oP 69 (.bi .neq t68 (vI 0))]) (.cond t69 (.seq (rg 75 ([oM 70 t0]++rF 71 t0 1++[oP 75 (.call 13 [t70,(vI 180),t74])])) (.seq (rg 2 [oP 2 (.mv (.v (.string ⟨#[]⟩)))]) (.cn [2] .ret))) .skip)) (.seq (rg 0 ([oM 76 t0,oM 77 t3,oP 78 (.bi .add t77 (vI 1))]++rS 79 t76 1 t78)) (.seq (rg 2 [oM 81 t4,oP 82 (.iaddr 6 t81 (vI 0)),oP 83 (.faddr 2 t82),oP 84 (.load none t83),oM 2 t84]) (.cn [2] .ret)))))))))
def qDs (end_:Int) (qHm:BA):Option (Int ⊕ Int) :=
 gd ((decide (end_<(qHm.size:Int)))=true→0≤end_∧end_<qHm.size) <|
 bif ((decide (end_<(qHm.size:Int))) && (!decide ((bAt qHm end_)=(34:Int)))) then (
  gd (0≤end_∧end_<qHm.size) <|
  bif decide ((bAt qHm end_)=(92:Int)) then (
   gd (qAf (end_+(1:Int))) <|
   gd (qAf ((end_+(1:Int))+(1:Int))) <|
   some (.inl ((end_+(1:Int))+(1:Int))))
  else (
   gd (qAf (end_+(1:Int))) <|
   some (.inl (end_+(1:Int)))))
 else (
  some (.inr end_))
def zcm_p0 (end_:Int) (qHm:BA):Option Int :=
 qAw (fun x:Int=>qDs x qHm) end_
def zcm_s (r_:qHl):Option (qHl × BA) :=
 gd (qAf (r_.at_+(1:Int))) <|
 (zcm_p0 (r_.at_+(1:Int)) r_.text).bind fun o3 =>
 bif decide ((r_.text.size:Int)≤o3) then (
  (qF6 r_ (180:Int) r_.at_).bind fun r4 =>
  some (r4,(⟨#[]⟩:BA)))
 else (
  gd (qAf (o3+(1:Int))) <|
  gd (0≤r_.at_∧r_.at_≤(o3+(1:Int))∧(o3+(1:Int))≤r_.text.size) <|
  (zcw_s (r_.text.extract (Int.toNat r_.at_) (Int.toNat (o3+(1:Int))))).bind fun r5 =>
  gd (([.cells 37 [.vS r_.text,.vI r_.at_,.bsl 1,.vI r_.open_,.vI r_.err,.vI r_.bad],.bag qAk 44 r_.out]:List SB)=[.cells 37 [.vS r_.text,.vI r_.at_,.bsl 1,.vI r_.open_,.vI r_.err,.vI r_.bad],.bag qAk 44 r_.out]) <|
  bif (!decide (r5.2.1=(0:Int))) then (
   (qF6 r_ (180:Int) r_.at_).bind fun r6 =>
   some (r6,(⟨#[]⟩:BA)))
  else (
   gd (qAf (o3+(1:Int))) <|
   gd (0≤(0:Int)∧(0:Int)<r5.1.length) <|
   gd ((Int.toNat (0:Int))<r5.1.length) <|
   gd ((Int.toNat (0:Int))<r5.1.length) <|
   some ({r_ with at_:=(o3+(1:Int)):qHl},(r5.1.getD (Int.toNat (0:Int)) (ET.dft .node)).text)))
def zcm_G:Nat→Option CQ:=tblQ [(13,zcb_w),(65,zcw_w)]
def zcm_d0:=(dQS zDRP6 zDRP8)
def zcm_l0:SubQ:=mkL zcm_d0 (fun x=>zcm_p0 x.1.2.1 x.2.1.1) fun x r R kn kx kr=>kx 0 ⟨[sL 0 (.hd 0 0),sL 3 (.vI r)],[],[.cells 37 [.vS x.2.1.1,.vI x.2.1.2.1,.bsl 1,.vI x.2.1.2.2.2.1,.vI x.2.1.2.2.2.2.1,.vI x.2.1.2.2.2.2.2.1],.bag qAk 44 x.2.2.1]⟩
def zcm_L:Nat→SubQ:=tblL [(0,zcm_l0)]
theorem zcm_sub0:qA0 zcm_L zcm_G 2 7 85 0 zcm_b0:=qAp (show zcm_L 0=zcm_l0 from by kernel_rfl) fun x R kn kx kr=>qAm (step:=fun y=>qDs y x.2.1.1) (enc:=fun (y:Int)=>zcm_d0.e ((x.1.1,y,x.1.2.2),x.2)) (fun y=>by kernel_rfl) (fun y ki=>by simp only [qDs,-eq_self,qAc,qAe,obA,obS,slL,slR,qAd]; kernel_rfl) x.1.2.1
def zcm_c:CS:=mkC (qAa (dVC (dCO (dH 0 0))) dNil) (qAa zDRP2 (qAa qB8 dNil)) (fun x y=>zcm_s (⟨y.1.1,y.1.2.1,y.2.1,y.1.2.2.2.1,y.1.2.2.2.2.1,y.1.2.2.2.2.2.1⟩:qHl)) (fun x y r=>.c (.o (.vS r.2))) fun x y r=>[.cells 37 [.vS r.1.text,.vI r.1.at_,.bsl 1,.vI r.1.open_,.vI r.1.err,.vI r.1.bad],.bag qAk 44 r.1.out]
theorem zcm_val:qAj Tryz.prog 54 zcm_c:=vl1 zcm_q [.tmp 2] 85 7 2 (show qAu zcm_L zcm_G 2 7 85 [(0,zcm_b0)] from ⟨zcm_sub0,tV⟩) (qAl ⟨zcb_ok,zcw_ok,tV⟩) fun x y=>by
 simp only [zcm_s,-eq_self,qAc,qAe,obA,obS,slL,slR,qAd];kernel_rfl
def zcm_w:CQ:=qBh [(0,some 2,some ((.bag qAk),44))] (qBs [true,true] zcm_c)
theorem zcm_ok:qAg Tryz.prog 54 zcm_w:=qAs zcm_val
def zby_b0:IQ:=(.loop [0,4,5] (.seq (.seq (rg 22 [oM 19 t5,oM 20 t0,oP 21 (.lenS t20),oP 22 (.bi .lss t19 t21)]) (.cond t22 .skip (.cn [4] (.exit 0)))) (.seq (.block 1 (.seq (.seq (rg 29 [oM 25 t0,oM 26 t5,oP 27 (.index t25 t26),oP 28 (.call 40 [t27]),oP 29 (.un .not t28)]) (.cond t29 (.seq (rg 3 [oP 2 (.mv (vI 0)),oP 3 (.mv vF)]) (.cn [2,3] .ret)) .skip)) (rg 4 [oM 30 t4,oP 31 (.bi .mul (vI 10) t30),oM 32 t0,oM 33 t5,oP 34 (.index t32 t33),oP 35 (.bi .sub t34 (vC 48)),oP 36 (.conv false .i64 t35),oP 37 (.bi .add t31 t36),oP 38 (.mm false t37 (vI 1099511627776)),oM 4 t38]))) (rg 5 [oM 23 t5,oP 24 (.bi .add t23 (vI 1)),oM 5 t24]))))
def zby_q:IQ:=(.seq (rg 3 [oP 2 (.mv (vI 0)),oP 3 (.mv vF)]) (.seq (.seq (rg 18 [oM 6 t0,oP 7 (.lenS t6),oP 8 (.bi .eql t7 (vI 0)),oM 9 t8,oE 10 (.mv t0) 9,oE 11 (.lenS t10) 9,oE 12 (.bi .gtr t11 (vI 1)) 9,oE 13 (.mv t12) 9,oF 14 (.mv t0) 13,oF 15 (.index t14 (vI 0)) 13,oF 16 (.bi .eql t15 (vC 48)) 13,oE 17 (.pick t13 t16 vF) 9,oP 18 (.pick t9 vT t17)]) (.cond t18 (.seq (rg 3 [oP 2 (.mv (vI 0)),oP 3 (.mv vF)]) (.cn [2,3] .ret)) .skip)) (.seq (rg 4 [oP 4 (.mv (vI 0))]) (.seq (.seq (rg 5 [oP 5 (.mv (vI 0))]) (.block 0 (.cn [0,4,5] (.sub 0 zby_b0)))) (.seq (rg 3 [oM 39 t4,oM 2 t39,oP 3 (.mv vT)]) (.cn [2,3] .ret))))))
def qEl (s:BA) (n i:Int):Option ((Int × Int) ⊕ ((Int × Bool) ⊕ Int)) :=
 bif decide (i<(s.size:Int)) then (
  gd (0≤i∧i<s.size) <|
  (zcp_s (bAt s i)).bind fun r3 =>
  bif (!r3) then (
   some (.inr (.inl ((0:Int),false))))
  else (
   gd (qAf ((10:Int)*n)) <|
   gd (0≤i∧i<s.size) <|
   gd (qAf (((bAt s i) - (48:Int)) % 256)) <|
   gd (qAf (((10:Int)*n)+(((bAt s i) - (48:Int)) % 256))) <|
   gd (qAf (i+(1:Int))) <|
   some (.inl ((if (1099511627776:Int)<(((10:Int)*n)+(((bAt s i) - (48:Int)) % 256)) then (1099511627776:Int) else (((10:Int)*n)+(((bAt s i) - (48:Int)) % 256))),(i+(1:Int))))))
 else (
  some (.inr (.inr n)))
def zby_p0 (s:BA) (n i:Int):Option ((Int × Bool) ⊕ Int) :=
 qAw (fun x:(Int × Int)=>qEl s x.1 x.2) (n,i)
def zby_s (s:BA):Option (Int × Bool) :=
 gd ((decide ((1:Int)<(s.size:Int)))=true→(decide ((s.size:Int)=(0:Int)))=false→0≤(0:Int)∧(0:Int)<s.size) <|
 bif ((decide ((s.size:Int)=(0:Int))) || ((decide ((1:Int)<(s.size:Int))) && (decide ((bAt s (0:Int))=(48:Int))))) then (
  some ((0:Int),false))
 else (
  (zby_p0 s (0:Int) (0:Int)).bind fun o4=>(Sum.elim (fun (o4_0:Int × Bool) =>
   some (o4_0.1,o4_0.2)) (fun (o4_1:Int) =>
   some (o4_1,true))) o4)
def zby_G:Nat→Option CQ:=tblQ [(40,zcp_w)]
def zby_d0:=(dQS (qAa (dSO 0 dS) (qAa (dSO 4 dZ) (qAa (dSO 5 dZ) dNil))) dNil)
def zby_l0:SubQ:=mkL zby_d0 (fun x=>zby_p0 x.1.1 x.1.2.1 x.1.2.2.1) fun x r R kn kx kr=>(Sum.elim (fun (r_0:Int × Bool)=>kr ⟨[sL 2 (.vI r_0.1),sL 3 (.vB r_0.2)],[],[]⟩) (fun (r_1:Int)=>kx 0 ⟨[sL 4 (.vI r_1)],[],[]⟩)) r
def zby_L:Nat→SubQ:=tblL [(0,zby_l0)]
theorem zby_sub0:qA0 zby_L zby_G 0 6 40 0 zby_b0:=qAp (show zby_L 0=zby_l0 from by kernel_rfl) fun x R kn kx kr=>qAm (step:=fun y=>qEl x.1.1 y.1 y.2) (enc:=fun (y:Int × Int)=>zby_d0.e ((x.1.1,y.1,y.2,x.1.2.2.2),x.2)) (fun y=>by kernel_rfl) (fun y ki=>by simp only [qEl,-eq_self,qAc,qAe,obA,obS,slL,slR,qAd]; kernel_rfl) (x.1.2.1,x.1.2.2.1)
def zby_c:CS:=mkC (qAa (dVC (dCO dS)) dNil) dNil (fun x y=>zby_s x.1) (fun x y r=>.tup [.o (.vI r.1),.o (.vB r.2)]) fun x y r=>[]
theorem zby_val:qAj Tryz.prog 55 zby_c:=vl1 zby_q [.tmp 2,.tmp 3] 40 6 0 (show qAu zby_L zby_G 0 6 40 [(0,zby_b0)] from ⟨zby_sub0,tV⟩) (qAl ⟨zcp_ok,tV⟩) fun x y=>by
 simp only [zby_s,-eq_self,qAc,qAe,obA,obS,slL,slR,qAd];kernel_rfl
def zby_w:CQ:=qCl [] zby_c
theorem zby_ok:qAg Tryz.prog 55 zby_w:=qAn zby_val
def zcr_b0:IQ:=(.join [] [] (.cond t4 (.seq (rg 2 [oP 2 (.mv vT)]) (.cn [2] .ret)) .skip))
def zcr_q:IQ:=(.seq (rg 2 [oP 2 (.mv vF)]) (.seq (.seq (rg 3 [oM 3 t0]) (.block 0 (.seq (.seq (rg 4 [oP 5 (.bi .eql t3 (.v (.string ⟨#[97,110,100]⟩))),oM 4 t5]) (.cond t4 .skip (.seq (rg 4 [oP 6 (.bi .eql t3 (.v (.string ⟨#[111,114]⟩))),oM 4 t6]) (.cond t4 .skip (.seq (rg 4 [oP 7 (.bi .eql t3 (.v (.string ⟨#[110,111,116]⟩))),oM 4 t7]) (.cond t4 .skip (.seq (rg 4 [oP 8 (.bi .eql t3 (.v (.string ⟨#[104,97,115]⟩))),oM 4 t8]) (.cond t4 .skip (.seq (rg 4 [oP 9 (.bi .eql t3 (.v (.string ⟨#[99,111,110,116,97,105,110,115]⟩))),oM 4 t9]) (.cond t4 .skip (.seq (rg 4 [oP 10 (.bi .eql t3 (.v (.string ⟨#[116,114,117,101]⟩))),oM 4 t10]) (.cond t4 .skip (.seq (rg 4 [oP 11 (.bi .eql t3 (.v (.string ⟨#[102,97,108,115,101]⟩))),oM 4 t11]) (.cond t4 .skip (rg 4 [oP 12 (.bi .eql t3 (.v (.string ⟨#[110,117,108,108]⟩))),oM 4 t12]))))))))))))))) (.cn [4] (.sub 0 zcr_b0))))) (.seq (rg 2 [oP 2 (.mv vF)]) (.cn [2] .ret))))
def zcr_p0 (x4_:Bool):Option (Bool ⊕ Unit) :=
 bif x4_ then (
  some (.inl true))
 else (
  some (.inr ()))
def zcr_s (s:BA):Option Bool :=
 bif decide (s=(⟨#[97,110,100]⟩:BA)) then (
  (zcr_p0 (decide (s=(⟨#[97,110,100]⟩:BA)))).bind fun o1=>(Sum.elim (fun (o1_0:Bool) =>
   some o1_0) (fun (o1_1:Unit) =>
   some false)) o1)
 else (
  bif decide (s=(⟨#[111,114]⟩:BA)) then (
   (zcr_p0 (decide (s=(⟨#[111,114]⟩:BA)))).bind fun o2=>(Sum.elim (fun (o2_0:Bool) =>
    some o2_0) (fun (o2_1:Unit) =>
    some false)) o2)
  else (
   bif decide (s=(⟨#[110,111,116]⟩:BA)) then (
    (zcr_p0 (decide (s=(⟨#[110,111,116]⟩:BA)))).bind fun o3=>(Sum.elim (fun (o3_0:Bool) =>
     some o3_0) (fun (o3_1:Unit) =>
     some false)) o3)
   else (
    bif decide (s=(⟨#[104,97,115]⟩:BA)) then (
     (zcr_p0 (decide (s=(⟨#[104,97,115]⟩:BA)))).bind fun o4=>(Sum.elim (fun (o4_0:Bool) =>
      some o4_0) (fun (o4_1:Unit) =>
      some false)) o4)
    else (
     bif decide (s=(⟨#[99,111,110,116,97,105,110,115]⟩:BA)) then (
      (zcr_p0 (decide (s=(⟨#[99,111,110,116,97,105,110,115]⟩:BA)))).bind fun o5=>(Sum.elim (fun (o5_0:Bool) =>
       some o5_0) (fun (o5_1:Unit) =>
       some false)) o5)
     else (
      bif decide (s=(⟨#[116,114,117,101]⟩:BA)) then (
       (zcr_p0 (decide (s=(⟨#[116,114,117,101]⟩:BA)))).bind fun o6=>(Sum.elim (fun (o6_0:Bool) =>
        some o6_0) (fun (o6_1:Unit) =>
        some false)) o6)
      else (
       bif decide (s=(⟨#[102,97,108,115,101]⟩:BA)) then (
        (zcr_p0 (decide (s=(⟨#[102,97,108,115,101]⟩:BA)))).bind fun o7=>(Sum.elim (fun (o7_0:Bool) =>
         some o7_0) (fun (o7_1:Unit) =>
         some false)) o7)
       else (
        (zcr_p0 (decide (s=(⟨#[110,117,108,108]⟩:BA)))).bind fun o8=>(Sum.elim (fun (o8_0:Bool) =>
         some o8_0) (fun (o8_1:Unit) =>
         some false)) o8)))))))
def zcr_G:Nat→Option CQ:=tblQ []
def zcr_d0:=(dQS (qAa (dSO 4 dB) dNil) dNil)
def zcr_l0:SubQ:=mkL zcr_d0 (fun x=>zcr_p0 x.1.1) fun x r R kn kx kr=>(Sum.elim (fun (r_0:Bool)=>kr ⟨[sL 2 (.vB r_0)],[],[]⟩) (fun (r_1:Unit)=>kn ⟨[],[],[]⟩)) r
def zcr_L:Nat→SubQ:=tblL [(0,zcr_l0)]
theorem zcr_sub0:qA0 zcr_L zcr_G 0 4 13 0 zcr_b0:=qAp (show zcr_L 0=zcr_l0 from by kernel_rfl) fun x R kn kx kr=>by
 simp only [zcr_p0,-eq_self,qAc,qAe,obA,obS,slL,slR,qAd];kernel_rfl
def zcr_c:CS:=mkC (qAa (dVC (dCO dS)) dNil) dNil (fun x y=>zcr_s x.1) (fun x y r=>.c (.o (.vB r))) fun x y r=>[]
theorem zcr_val:qAj Tryz.prog 66 zcr_c:=vl1 zcr_q [.tmp 2] 13 4 0 (show qAu zcr_L zcr_G 0 4 13 [(0,zcr_b0)] from ⟨zcr_sub0,tV⟩) (fun f C h=>by cases h) fun x y=>by
 simp only [zcr_s,-eq_self,qAc,qAe,obA,obS,slL,slR,qAd];kernel_rfl
def zcr_w:CQ:=qCl [] zcr_c
theorem zcr_ok:qAg Tryz.prog 66 zcr_w:=qAn zcr_val
def zbw_b0:IQ:=(.loop [0,3] (.seq (.seq (rg 20 [oM 17 t3,oM 18 t0,oP 19 (.lenS t18),oP 20 (.bi .lss t17 t19)]) (.cond t20 .skip (.cn [] (.exit 0)))) (.seq (.block 1 (.seq (rg 34 [oM 23 t0,oM 24 t3,oP 25 (.index t23 t24),oP 26 (.call 39 [t25]),oP 27 (.un .not t26),oM 28 t27,oF 29 (.mv t0) 28,oF 30 (.mv t3) 28,oF 31 (.index t29 t30) 28,oF 32 (.call 40 [t31]) 28,oF 33 (.un .not t32) 28,oP 34 (.pick t28 t33 vF)]) (.cond t34 (.seq (rg 2 [oP 2 (.mv vF)]) (.cn [2] .ret)) .skip))) (rg 3 [oM 21 t3,oP 22 (.bi .add t21 (vI 1)),oM 3 t22]))))
def zbw_q:IQ:=(.seq (rg 2 [oP 2 (.mv vF)]) (.seq (.seq (rg 16 [oM 4 t0,oP 5 (.lenS t4),oP 6 (.bi .eql t5 (vI 0)),oM 7 t6,oE 8 (.mv t0) 7,oE 9 (.index t8 (vI 0)) 7,oE 10 (.call 39 [t9]) 7,oE 11 (.un .not t10) 7,oP 12 (.pick t7 vT t11),oM 13 t12,oE 14 (.mv t0) 13,oE 15 (.call 66 [t14]) 13,oP 16 (.pick t13 vT t15)]) (.cond t16 (.seq (rg 2 [oP 2 (.mv vF)]) (.cn [2] .ret)) .skip)) (.seq (.seq (rg 3 [oP 3 (.mv (vI 0))]) (.block 0 (.cn [0,3] (.sub 0 zbw_b0)))) (.seq (rg 2 [oP 2 (.mv vT)]) (.cn [2] .ret)))))
def qF4 (s:BA) (i:Int):Option (Int ⊕ (Bool ⊕ Unit)) :=
 bif decide (i<(s.size:Int)) then (
  gd (0≤i∧i<s.size) <|
  (zcq_s (bAt s i)).bind fun r7 =>
  gd ((!r7)=true→0≤i∧i<s.size) <|
  bif (!r7) then (
   (zcp_s (bAt s i)).bind fun r8 =>
   bif (!r8) then (
    some (.inr (.inl false)))
   else (
    gd (qAf (i+(1:Int))) <|
    some (.inl (i+(1:Int)))))
  else (
   gd (qAf (i+(1:Int))) <|
   some (.inl (i+(1:Int)))))
 else (
  some (.inr (.inr ())))
def zbw_p0 (s:BA) (i:Int):Option (Bool ⊕ Unit) :=
 qAw (fun x:Int=>qF4 s x) i
def zbw_s (s:BA):Option Bool :=
 gd ((decide ((s.size:Int)=(0:Int)))=false→0≤(0:Int)∧(0:Int)<s.size) <|
 bif decide ((s.size:Int)=(0:Int)) then (
  some false)
 else (
  (zcq_s (bAt s (0:Int))).bind fun r5 =>
  bif (!r5) then (
   some false)
  else (
   (zcr_s s).bind fun r6 =>
   bif r6 then (
    some false)
   else (
    (zbw_p0 s (0:Int)).bind fun o9=>(Sum.elim (fun (o9_0:Bool) =>
     some o9_0) (fun (o9_1:Unit) =>
     some true)) o9)))
def zbw_G:Nat→Option CQ:=tblQ [(39,zcq_w),(66,zcr_w),(40,zcp_w)]
def zbw_d0:=(dQS (qAa (dSO 0 dS) (qAa (dSO 3 dZ) dNil)) dNil)
def zbw_l0:SubQ:=mkL zbw_d0 (fun x=>zbw_p0 x.1.1 x.1.2.1) fun x r R kn kx kr=>(Sum.elim (fun (r_0:Bool)=>kr ⟨[sL 2 (.vB r_0)],[],[]⟩) (fun (r_1:Unit)=>kx 0 ⟨[],[],[]⟩)) r
def zbw_L:Nat→SubQ:=tblL [(0,zbw_l0)]
theorem zbw_sub0:qA0 zbw_L zbw_G 0 4 35 0 zbw_b0:=qAp (show zbw_L 0=zbw_l0 from by kernel_rfl) fun x R kn kx kr=>qAm (step:=fun y=>qF4 x.1.1 y) (enc:=fun (y:Int)=>zbw_d0.e ((x.1.1,y,x.1.2.2),x.2)) (fun y=>by kernel_rfl) (fun y ki=>by simp only [qF4,-eq_self,qAc,qAe,obA,obS,slL,slR,qAd]; kernel_rfl) x.1.2.1
def zbw_c:CS:=mkC (qAa (dVC (dCO dS)) dNil) dNil (fun x y=>zbw_s x.1) (fun x y r=>.c (.o (.vB r))) fun x y r=>[]
theorem zbw_val:qAj Tryz.prog 56 zbw_c:=vl1 zbw_q [.tmp 2] 35 4 0 (show qAu zbw_L zbw_G 0 4 35 [(0,zbw_b0)] from ⟨zbw_sub0,tV⟩) (qAl ⟨zcq_ok,zcr_ok,zcp_ok,tV⟩) fun x y=>by
 simp only [zbw_s,-eq_self,qAc,qAe,obA,obS,slL,slR,qAd];kernel_rfl
def zbw_w:CQ:=qCl [] zbw_c
theorem zbw_ok:qAg Tryz.prog 56 zbw_w:=qAn zbw_val
def zch_b0:IQ:=(.loop [0,1,7,8] (.seq (.seq (rg 52 [oM 43 t8,oM 44 t7,oP 45 (.lenS t44),oP 46 (.bi .lss t43 t45),oM 47 t46,oF 48 (.mv t7) 47,oF 49 (.mv t8) 47,oF 50 (.index t48 t49) 47,oF 51 (.call 40 [t50]) 47,oP 52 (.pick t47 t51 vF)]) (.cond t52 .skip (.cn [0,1,7,8] (.exit 0)))) (.block 1 (rg 8 [oM 53 t8,oP 54 (.bi .add t53 (vI 1)),oM 8 t54]))))
def zch_b1:IQ:=(.seq (rg 0 ([oM 83 t0]++rF 84 t0 1++[oM 88 t7,oP 89 (.lenS t88),oP 90 (.bi .add t87 t89)]++rS 91 t83 1 t90)) (.seq (rg 4 [oM 93 t7,oM 4 t93]) (.cn [4] .ret)))
def zch_q:IQ:=(.seq (rg 4 [oP 4 (.mv (.v (.string ⟨#[]⟩)))]) (.seq (.seq (rg 15 (rF 11 t0 4++[oP 15 (.bi .neq t14 (vI 0))])) (.cond t15 (.seq (rg 4 [oP 4 (.mv (.v (.string ⟨#[]⟩)))]) (.cn [4] .ret)) .skip)) (.seq (rg 5 [oM 16 t0,oP 17 (.call 12 [t16]),oM 5 t17]) (.seq (.seq (rg 19 [oM 18 t5,oP 19 (.un .not t18)]) (.cond t19 (.seq (rg 25 ([oM 20 t0]++rF 21 t0 1++[oP 25 (.call 13 [t20,(vI 180),t24])])) (.seq (rg 4 [oP 4 (.mv (.v (.string ⟨#[]⟩)))]) (.cn [4] .ret))) .skip)) (.seq (.reg 6 (some [0,1,2,3,4,5,6,7,8,9]) (rF 26 t0 0++rF 30 t0 1++[oP 34 (.index t29 t33),oM 6 t34])) (.seq (.seq (rg 36 [oM 35 t6,oP 36 (.bi .eql t35 (vC 34))]) (.cond t36 (.seq (rg 4 [oM 37 t0,oP 38 (.call 54 [t37]),oM 4 t38]) (.cn [4] .ret)) .skip)) (.seq (rg 7 [oM 39 t0,oP 40 (.call 26 [t39]),oM 7 t40]) (.seq (.seq (rg 42 [oM 41 t6,oP 42 (.call 40 [t41])]) (.cond t42 (.seq (rg 8 [oP 8 (.mv (vI 0))]) (.seq (.block 0 (.cn [0,1,7,8] (.sub 0 zch_b0))) (.seq (rg 7 [oM 55 t7,oM 56 t8,oP 57 (.sub none t55 none (some t56)),oM 7 t57]) (.seq (rg 10 [oM 59 t7,oP 60 (.call 55 [t59]),oM 58 t60,oP 61 (.extract t58 0),oP 62 (.extract t58 1),oM 9 t61,oM 10 t62]) (.seq (rg 67 [oM 63 t1,oM 64 t63,oE 65 (.mv t10) 64,oE 66 (.un .not t65) 64,oP 67 (.pick t64 vT t66)]) (.cond t67 (.seq (rg 73 ([oM 68 t0]++rF 69 t0 1++[oP 73 (.call 13 [t68,(vI 180),t72])])) (.seq (rg 4 [oP 4 (.mv (.v (.string ⟨#[]⟩)))]) (.cn [4] .ret))) .skip)))))) (.seq (rg 76 [oM 74 t7,oP 75 (.call 56 [t74]),oP 76 (.un .not t75)]) (.cond t76 (.seq (rg 82 ([oM 77 t0]++rF 78 t0 1++[oP 82 (.call 13 [t77,(vI 180),t81])])) (.seq (rg 4 [oP 4 (.mv (.v (.string ⟨#[]⟩)))]) (.cn [4] .ret))) .skip)))) (.cn [0,7] (.sub 1 zch_b1))))))))))
def qF8 (w:BA) (n:Int):Option (Int ⊕ Int) :=
 gd ((decide (n<(w.size:Int)))=true→0≤n∧n<w.size) <|
 bif decide (n<(w.size:Int)) then (
  (zcp_s (bAt w n)).bind fun r14 =>
  bif r14 then (
   gd (qAf (n+(1:Int))) <|
   some (.inl (n+(1:Int))))
  else (
   some (.inr n)))
 else (
  some (.inr n))
def zch_p0 (w:BA) (n:Int):Option Int :=
 qAw (fun x:Int=>qF8 w x) n
def zch_p1 (w:BA) (qHp:Int):Option Int :=
 gd (qAf (qHp+(w.size:Int))) <|
 some (qHp+(w.size:Int))
def zch_s (r_:qHl) (first:Bool):Option (qHl × BA) :=
 bif (!decide (r_.err=(0:Int))) then (
  some (r_,(⟨#[]⟩:BA)))
 else (
  (zca_s r_).bind fun r9 =>
  bif (!r9.2) then (
   (qF6 r9.1 (180:Int) r9.1.at_).bind fun r10 =>
   some (r10,(⟨#[]⟩:BA)))
  else (
   gd (0≤r9.1.at_∧r9.1.at_<r9.1.text.size) <|
   bif decide ((bAt r9.1.text r9.1.at_)=(34:Int)) then (
    (zcm_s r9.1).bind fun r11 =>
    some (r11.1,r11.2))
   else (
    (zco_s r9.1).bind fun r12 =>
    (zcp_s (bAt r9.1.text r9.1.at_)).bind fun r13 =>
    bif r13 then (
     (zch_p0 r12 (0:Int)).bind fun o15 =>
     gd (0≤(0:Int)∧(0:Int)≤o15∧o15≤r12.size) <|
     (zby_s (r12.extract 0 (Int.toNat o15))).bind fun r16 =>
     bif (first || (!r16.2)) then (
      (qF6 r9.1 (180:Int) r9.1.at_).bind fun r17 =>
      some (r17,(⟨#[]⟩:BA)))
     else (
      (zch_p1 (r12.extract 0 (Int.toNat o15)) r9.1.at_).bind fun o18 =>
      some ({r9.1 with at_:=o18:qHl},(r12.extract 0 (Int.toNat o15)))))
    else (
     (zbw_s r12).bind fun r19 =>
     bif (!r19) then (
      (qF6 r9.1 (180:Int) r9.1.at_).bind fun r20 =>
      some (r20,(⟨#[]⟩:BA)))
     else (
      (zch_p1 r12 r9.1.at_).bind fun o21 =>
      some ({r9.1 with at_:=o21:qHl},r12))))))
def zch_G:Nat→Option CQ:=tblQ [(12,zca_w),(13,zcb_w),(54,zcm_w),(26,zco_w),(40,zcp_w),(55,zby_w),(56,zbw_w)]
def zch_d0:=(dQS (qAa (dSO 0 (dH 0 0)) (qAa (dSO 1 dB) (qAa (dSO 7 dS) (qAa (dSO 8 dZ) dNil)))) zDRP8)
def zch_l0:SubQ:=mkL zch_d0 (fun x=>zch_p0 x.1.2.2.1 x.1.2.2.2.1) fun x r R kn kx kr=>kx 0 ⟨[sL 0 (.hd 0 0),sL 1 (.vB x.1.2.1),sL 7 (.vS x.1.2.2.1),sL 8 (.vI r)],[],[.cells 37 [.vS x.2.1.1,.vI x.2.1.2.1,.bsl 1,.vI x.2.1.2.2.2.1,.vI x.2.1.2.2.2.2.1,.vI x.2.1.2.2.2.2.2.1],.bag qAk 44 x.2.2.1]⟩
def zch_d1:=(dQS (qAa (dSO 0 (dH 0 0)) (qAa (dSO 7 dS) dNil)) zDRP8)
def zch_l1:SubQ:=mkL zch_d1 (fun x=>zch_p1 x.1.2.1 x.2.1.2.1) fun x r R kn kx kr=>kr ⟨[sL 4 (.vS x.1.2.1)],[],[.cells 37 [.vS x.2.1.1,.vI r,.bsl 1,.vI x.2.1.2.2.2.1,.vI x.2.1.2.2.2.2.1,.vI x.2.1.2.2.2.2.2.1],.bag qAk 44 x.2.2.1]⟩
def zch_L:Nat→SubQ:=tblL [(0,zch_l0),(1,zch_l1)]
theorem zch_sub0:qA0 zch_L zch_G 2 11 94 0 zch_b0:=qAp (show zch_L 0=zch_l0 from by kernel_rfl) fun x R kn kx kr=>qAm (step:=fun y=>qF8 x.1.2.2.1 y) (enc:=fun (y:Int)=>zch_d0.e ((x.1.1,x.1.2.1,x.1.2.2.1,y,x.1.2.2.2.2),x.2)) (fun y=>by kernel_rfl) (fun y ki=>by simp only [qF8,-eq_self,qAc,qAe,obA,obS,slL,slR,qAd]; kernel_rfl) x.1.2.2.2.1
theorem zch_sub1:qA0 zch_L zch_G 2 11 94 1 zch_b1:=qAp (show zch_L 1=zch_l1 from by kernel_rfl) fun x R kn kx kr=>by
 simp only [zch_p1,-eq_self,qAc,qAe,obA,obS,slL,slR,qAd];kernel_rfl
def zch_c:CS:=mkC (qAa (dVC (dCO (dH 0 0))) (qAa (dVC (dCO dB)) dNil)) (qAa zDRP2 (qAa qB8 dNil)) (fun x y=>zch_s (⟨y.1.1,y.1.2.1,y.2.1,y.1.2.2.2.1,y.1.2.2.2.2.1,y.1.2.2.2.2.2.1⟩:qHl) x.2.1) (fun x y r=>.c (.o (.vS r.2))) fun x y r=>[.cells 37 [.vS r.1.text,.vI r.1.at_,.bsl 1,.vI r.1.open_,.vI r.1.err,.vI r.1.bad],.bag qAk 44 r.1.out]
theorem zch_val:qAj Tryz.prog 46 zch_c:=vl1 zch_q [.tmp 4] 94 11 2 (show qAu zch_L zch_G 2 11 94 [(0,zch_b0),(1,zch_b1)] from ⟨zch_sub0,zch_sub1,tV⟩) (qAl ⟨zca_ok,zcb_ok,zcm_ok,zco_ok,zcp_ok,zby_ok,zbw_ok,tV⟩) fun x y=>by
 simp only [zch_s,-eq_self,qAc,qAe,obA,obS,slL,slR,qAd];kernel_rfl
def zch_w:CQ:=qBh [(0,some 2,some ((.bag qAk),44))] (qBs [true,true] zch_c)
theorem zch_ok:qAg Tryz.prog 46 zch_w:=qAs zch_val
def zci_b2:IQ:=(.join [] [0,3] (.block 1 (.seq (rg 0 (rF 29 t0 1++[oP 33 (.bi .add t32 (vI 1))]++rS 34 t29 1 t33)) (.seq (rg 4 [oM 36 t0,oP 37 (.call 46 [t36,vF]),oM 4 t37]) (rg 3 [oM 38 t3,oM 39 t4,oP 40 (.bslice 9 1 1 [.string ⟨#[]⟩] [(0,t39)]),oP 41 (.append 9 1 16 [.string ⟨#[]⟩] t38 t40),oM 3 t41])))))
def zci_b1:IQ:=(.join [] [0,3] (.seq (.seq (.regT 28 (.one ⟨(some 8),.mv t0,none⟩ (.one ⟨(some 9),.nk t8,none⟩ (.one ⟨(some 10),.faddr 4 t9,none⟩ (.one ⟨(some 11),.load none t10,none⟩ (.one ⟨(some 12),.bi .eql t11 (vI 0),none⟩ (.one ⟨(some 13),.mv t12,none⟩ (.one ⟨(some 14),.mv t0,some (13,true)⟩ (.one ⟨(some 15),.callL 12 [t14],some (13,true)⟩ (.one ⟨(some 16),.pick t13 t15 vF,none⟩ (.one ⟨(some 17),.mv t16,none⟩ (.one ⟨(some 18),.mv t0,some (17,true)⟩ (.one ⟨(some 19),.nk t18,some (17,true)⟩ (.one ⟨(some 20),.faddr 0 t19,some (17,true)⟩ (.one ⟨(some 22),.mv t0,some (17,true)⟩ (.one ⟨(some 23),.nk t22,some (17,true)⟩ (.one ⟨(some 24),.faddr 1 t23,some (17,true)⟩ (.alt ⟨(some 21),.load none t20,some (17,true)⟩ (.alt ⟨(some 25),.load none t24,some (17,true)⟩ (.one ⟨(some 26),.index t21 t25,some (17,true)⟩ (.one ⟨(some 27),.bi .eql t26 (vC 46),some (17,true)⟩ (.one ⟨(some 28),.pick t17 t27 vF,none⟩ .fin))) .stop) (.alt ⟨(some 25),.load none t24,some (17,true)⟩ (.alt ⟨(some 21),.load none t20,some (17,true)⟩ (.one ⟨(some 26),.index t21 t25,some (17,true)⟩ (.one ⟨(some 27),.bi .eql t26 (vC 46),some (17,true)⟩ (.one ⟨(some 28),.pick t17 t27 vF,none⟩ .fin))) .stop) .stop))))))))))))))))))) (.cond t28 .skip (.cn [3] (.exit 0)))) (.cn [0,3] (.sub 2 zci_b2))))
def zci_b0:IQ:=(.loop [0,3] (.cn [0,3] (.sub 1 zci_b1)))
def zci_q:IQ:=(.seq (rg 2 [oP 2 (.mv (.v (.slice none 0 0)))]) (.seq (rg 3 [oM 5 t0,oP 6 (.call 46 [t5,vT]),oP 7 (.bslice 9 1 1 [.string ⟨#[]⟩] [(0,t6)]),oM 3 t7]) (.seq (.block 0 (.cn [0,3] (.sub 0 zci_b0))) (.seq (rg 2 [oM 42 t3,oM 2 t42]) (.canon [(2,none,.str,9)] [2] .ret)))))
def zci_p2 (qHm:BA) (qHp qHt qHr qHy:Int) (qHz:qAt) (l:List BA):Option (BA × Int × Int × Int × Int × qAt × (List BA)) :=
 gd (qAf (qHp+(1:Int))) <|
 (zch_s (⟨qHm,(qHp+(1:Int)),qHz,qHt,qHr,qHy⟩:qHl) false).bind fun r68 =>
 gd (l.length+([r68.2]:List BA).length≤9223372036854775807∧(l.length+([r68.2]:List BA).length)*16≤140737488355328) <|
 some (r68.1.text,r68.1.at_,r68.1.open_,r68.1.err,r68.1.bad,r68.1.out,(l++[r68.2]))
def zci_p1 (qHm:BA) (qHp qHt qHr qHy:Int) (qHz:qAt) (l:List BA):Option ((BA × Int × Int × Int × Int × qAt × (List BA)) ⊕ (BA × Int × Int × Int × Int × qAt)) :=
 bif (decide (qHr=(0:Int))) then (
  (zca_s (⟨qHm,qHp,qHz,qHt,qHr,qHy⟩:qHl)).bind fun r67 =>
  gd (((decide (qHr=(0:Int))) && r67.2)=true→0≤r67.1.at_∧r67.1.at_<r67.1.text.size) <|
  bif (((decide (qHr=(0:Int))) && r67.2) && (decide ((bAt r67.1.text r67.1.at_)=(46:Int)))) then (
   (zci_p2 r67.1.text r67.1.at_ r67.1.open_ r67.1.err r67.1.bad r67.1.out l).bind fun o69 =>
   some (.inl (o69.1,o69.2.1,o69.2.2.1,o69.2.2.2.1,o69.2.2.2.2.1,o69.2.2.2.2.2.1,o69.2.2.2.2.2.2)))
  else (
   some (.inr (r67.1.text,r67.1.at_,r67.1.open_,r67.1.err,r67.1.bad,r67.1.out))))
 else (
  gd (((decide (qHr=(0:Int))) && false)=true→0≤qHp∧qHp<qHm.size) <|
  bif (((decide (qHr=(0:Int))) && false) && (decide ((bAt qHm qHp)=(46:Int)))) then (
   (zci_p2 qHm qHp qHt qHr qHy qHz l).bind fun o71 =>
   some (.inl (o71.1,o71.2.1,o71.2.2.1,o71.2.2.2.1,o71.2.2.2.2.1,o71.2.2.2.2.2.1,o71.2.2.2.2.2.2)))
  else (
   some (.inr (qHm,qHp,qHt,qHr,qHy,qHz))))
def qDr (qHm:BA) (qHp qHt qHr qHy:Int) (qHz:qAt) (l:List BA):Option ((BA × Int × Int × Int × Int × qAt × (List BA)) ⊕ (BA × Int × Int × Int × Int × qAt × (List BA))) :=
 (zci_p1 qHm qHp qHt qHr qHy qHz l).bind fun o73=>(Sum.elim (fun (o73_0:BA × Int × Int × Int × Int × qAt × (List BA)) =>
  some (.inl (o73_0.1,o73_0.2.1,o73_0.2.2.1,o73_0.2.2.2.1,o73_0.2.2.2.2.1,o73_0.2.2.2.2.2.1,o73_0.2.2.2.2.2.2))) (fun (o73_1:BA × Int × Int × Int × Int × qAt) =>
  some (.inr (o73_1.1,o73_1.2.1,o73_1.2.2.1,o73_1.2.2.2.1,o73_1.2.2.2.2.1,o73_1.2.2.2.2.2,l)))) o73
def zci_p0 (qHm:BA) (qHp qHt qHr qHy:Int) (qHz:qAt) (l:List BA):Option (BA × Int × Int × Int × Int × qAt × (List BA)) :=
 qAw (fun x:(BA × Int × Int × Int × Int × qAt × (List BA))=>qDr x.1 x.2.1 x.2.2.1 x.2.2.2.1 x.2.2.2.2.1 x.2.2.2.2.2.1 x.2.2.2.2.2.2) (qHm,qHp,qHt,qHr,qHy,qHz,l)
def zci_s (r_:qHl):Option (qHl × (List BA)) :=
 (zch_s r_ true).bind fun r66 =>
 (zci_p0 r66.1.text r66.1.at_ r66.1.open_ r66.1.err r66.1.bad r66.1.out [r66.2]).bind fun o74 =>
 some ((⟨o74.1,o74.2.1,o74.2.2.2.2.2.1,o74.2.2.1,o74.2.2.2.1,o74.2.2.2.2.1⟩:qHl),o74.2.2.2.2.2.2)
def zci_G:Nat→Option CQ:=tblQ [(46,zch_w),(12,zca_w)]
def zci_d2:=(dQS zDRP11 (qAa zDRP2 zDRP12))
def zci_l2:SubQ:=mkL zci_d2 (fun x=>zci_p2 x.2.1.1 x.2.1.2.1 x.2.1.2.2.2.1 x.2.1.2.2.2.2.1 x.2.1.2.2.2.2.2.1 x.2.2.1 x.2.2.2.1) fun x r R kn kx kr=>kn ⟨[sL 0 (.hd 0 0),sL 3 (.own 2)],[],[.cells 37 [.vS r.1,.vI r.2.1,.bsl 1,.vI r.2.2.1,.vI r.2.2.2.1,.vI r.2.2.2.2.1],.bag qAk 44 r.2.2.2.2.2.1,.row .str 9 r.2.2.2.2.2.2]⟩
def zci_d1:=(dQS zDRP11 (qAa zDRP2 zDRP12))
def zci_l1:SubQ:=fun S R kn kx kr=>(Dec.d zci_d1 S).bind fun x=>(zci_p1 x.2.1.1 x.2.1.2.1 x.2.1.2.2.2.1 x.2.1.2.2.2.2.1 x.2.1.2.2.2.2.2.1 x.2.2.1 x.2.2.2.1).bind fun r=>(Sum.elim (fun (r_0:BA × Int × Int × Int × Int × qAt × (List BA))=>kn ⟨[sL 0 (.hd 0 0),sL 3 (.own 2)],[],[.cells 37 [.vS r_0.1,.vI r_0.2.1,.bsl 1,.vI r_0.2.2.1,.vI r_0.2.2.2.1,.vI r_0.2.2.2.2.1],.bag qAk 44 r_0.2.2.2.2.2.1,.row .str 9 r_0.2.2.2.2.2.2]⟩) (fun (r_1:BA × Int × Int × Int × Int × qAt)=>kx 0 ⟨[sL 3 (.own 2)],[],[.cells 37 [.vS r_1.1,.vI r_1.2.1,.bsl 1,.vI r_1.2.2.1,.vI r_1.2.2.2.1,.vI r_1.2.2.2.2.1],.bag qAk 44 r_1.2.2.2.2.2,.row .str 9 x.2.2.2.1]⟩)) r
def zci_d0:=(dQS zDRP11 (qAa zDRP2 zDRP12))
def zci_l0:SubQ:=mkL zci_d0 (fun x=>zci_p0 x.2.1.1 x.2.1.2.1 x.2.1.2.2.2.1 x.2.1.2.2.2.2.1 x.2.1.2.2.2.2.2.1 x.2.2.1 x.2.2.2.1) fun x r R kn kx kr=>kx 0 ⟨[sL 3 (.own 2)],[],[.cells 37 [.vS r.1,.vI r.2.1,.bsl 1,.vI r.2.2.1,.vI r.2.2.2.1,.vI r.2.2.2.2.1],.bag qAk 44 r.2.2.2.2.2.1,.row .str 9 r.2.2.2.2.2.2]⟩
def zci_L:Nat→SubQ:=tblL [(2,zci_l2),(1,zci_l1),(0,zci_l0)]
theorem zci_sub2:qA0 zci_L zci_G 2 5 43 2 zci_b2:=qAp (show zci_L 2=zci_l2 from by kernel_rfl) fun x R kn kx kr=>by
 simp only [zci_p2,-eq_self,qAc,qAe,obA,obS,slL,slR,qAd];kernel_rfl
theorem zci_p1_eq (qHm:BA) (qHp qHt qHr qHy:Int) (qHz:qAt) (l:List BA) (R:Type) (kn:QS→Option R) (kx:Nat→QS→Option R) (kr:QS→Option R) :
  Le ((zci_p1 qHm qHp qHt qHr qHy qHz l).bind fun r=>(Sum.elim (fun (r_0:BA × Int × Int × Int × Int × qAt × (List BA))=>kn ⟨[sL 0 (.hd 0 0),sL 3 (.own 2)],[],[.cells 37 [.vS r_0.1,.vI r_0.2.1,.bsl 1,.vI r_0.2.2.1,.vI r_0.2.2.2.1,.vI r_0.2.2.2.2.1],.bag qAk 44 r_0.2.2.2.2.2.1,.row .str 9 r_0.2.2.2.2.2.2]⟩) (fun (r_1:BA × Int × Int × Int × Int × qAt)=>kx 0 ⟨[sL 3 (.own 2)],[],[.cells 37 [.vS r_1.1,.vI r_1.2.1,.bsl 1,.vI r_1.2.2.1,.vI r_1.2.2.2.1,.vI r_1.2.2.2.2.1],.bag qAk 44 r_1.2.2.2.2.2,.row .str 9 l]⟩)) r) (qA1 zci_L zci_G 2 5 43 zci_b1 ⟨[sL 0 (.hd 0 0),sL 3 (.own 2)],[],[.cells 37 [.vS qHm,.vI qHp,.bsl 1,.vI qHt,.vI qHr,.vI qHy],.bag qAk 44 qHz,.row .str 9 l]⟩ kn kx kr):=by
 have h:∀K:((BA × Int × Int × Int × Int × qAt × (List BA)) ⊕ (BA × Int × Int × Int × Int × qAt))→Option R,Le ((zci_p1 qHm qHp qHt qHr qHy qHz l).bind K) (
  bif (decide (qHr=(0:Int))) then (
   (zca_s (⟨qHm,qHp,qHz,qHt,qHr,qHy⟩:qHl)).bind fun r67 =>
   all2d (
    gd (((decide (qHr=(0:Int))) && r67.2)=true→0≤r67.1.at_∧r67.1.at_<r67.1.text.size) <|
    bif (((decide (qHr=(0:Int))) && r67.2) && (decide ((bAt r67.1.text r67.1.at_)=(46:Int)))) then (
     (zci_p2 r67.1.text r67.1.at_ r67.1.open_ r67.1.err r67.1.bad r67.1.out l).bind fun o69 =>
     (K) (.inl (o69.1,o69.2.1,o69.2.2.1,o69.2.2.2.1,o69.2.2.2.2.1,o69.2.2.2.2.2.1,o69.2.2.2.2.2.2)))
    else (
     (K) (.inr (r67.1.text,r67.1.at_,r67.1.open_,r67.1.err,r67.1.bad,r67.1.out)))))
  else (
   all2d (
    gd (((decide (qHr=(0:Int))) && false)=true→0≤qHp∧qHp<qHm.size) <|
    bif (((decide (qHr=(0:Int))) && false) && (decide ((bAt qHm qHp)=(46:Int)))) then (
     (zci_p2 qHm qHp qHt qHr qHy qHz l).bind fun o71 =>
     (K) (.inl (o71.1,o71.2.1,o71.2.2.1,o71.2.2.2.1,o71.2.2.2.2.1,o71.2.2.2.2.2.1,o71.2.2.2.2.2.2)))
    else (
     (K) (.inr (qHm,qHp,qHt,qHr,qHy,qHz)))))):=fun K=>by
  unfold zci_p1;repeat' (first | exact Le.refl _ | refine Le.gdb ?_ | refine Le.condb ?_ ?_ | refine Le.all2d ?_ | refine Le.all2b ?_ ?_ | refine Le.bindb (fun _=>?_) | refine Le.elimb (fun _=>?_) (fun _=>?_))
 exact (h _).trans (Le.of_eq (by kernel_rfl))
theorem zci_sub1:qA0 zci_L zci_G 2 5 43 1 zci_b1:=sub_le zci_d1 (fun x R kn kx kr=>(zci_p1 x.2.1.1 x.2.1.2.1 x.2.1.2.2.2.1 x.2.1.2.2.2.2.1 x.2.1.2.2.2.2.2.1 x.2.2.1 x.2.2.2.1).bind fun r=>(Sum.elim (fun (r_0:BA × Int × Int × Int × Int × qAt × (List BA))=>kn ⟨[sL 0 (.hd 0 0),sL 3 (.own 2)],[],[.cells 37 [.vS r_0.1,.vI r_0.2.1,.bsl 1,.vI r_0.2.2.1,.vI r_0.2.2.2.1,.vI r_0.2.2.2.2.1],.bag qAk 44 r_0.2.2.2.2.2.1,.row .str 9 r_0.2.2.2.2.2.2]⟩) (fun (r_1:BA × Int × Int × Int × Int × qAt)=>kx 0 ⟨[sL 3 (.own 2)],[],[.cells 37 [.vS r_1.1,.vI r_1.2.1,.bsl 1,.vI r_1.2.2.1,.vI r_1.2.2.2.1,.vI r_1.2.2.2.2.1],.bag qAk 44 r_1.2.2.2.2.2,.row .str 9 x.2.2.2.1]⟩)) r) (by kernel_rfl) fun x R kn kx kr=>zci_p1_eq x.2.1.1 x.2.1.2.1 x.2.1.2.2.2.1 x.2.1.2.2.2.2.1 x.2.1.2.2.2.2.2.1 x.2.2.1 x.2.2.2.1 R kn kx kr
theorem zci_sub0:qA0 zci_L zci_G 2 5 43 0 zci_b0:=qAp (show zci_L 0=zci_l0 from by kernel_rfl) fun x R kn kx kr=>qAm (step:=fun y=>qDr y.1 y.2.1 y.2.2.1 y.2.2.2.1 y.2.2.2.2.1 y.2.2.2.2.2.1 y.2.2.2.2.2.2) (enc:=fun (y:BA × Int × Int × Int × Int × qAt × (List BA))=>zci_d0.e (x.1,((y.1,y.2.1,x.2.1.2.2.1,y.2.2.1,y.2.2.2.1,y.2.2.2.2.1,x.2.1.2.2.2.2.2.2),y.2.2.2.2.2.1,y.2.2.2.2.2.2,x.2.2.2.2))) (fun y=>by kernel_rfl) (fun y ki=>by simp only [qDr,-eq_self,qAc,qAe,obA,obS,slL,slR,qAd]; kernel_rfl) (x.2.1.1,x.2.1.2.1,x.2.1.2.2.2.1,x.2.1.2.2.2.2.1,x.2.1.2.2.2.2.2.1,x.2.2.1,x.2.2.2.1)
def zci_c:CS:=mkC (qAa (dVC (dCO (dH 0 0))) dNil) (qAa zDRP2 (qAa qB8 dNil)) (fun x y=>zci_s (⟨y.1.1,y.1.2.1,y.2.1,y.1.2.2.2.1,y.1.2.2.2.2.1,y.1.2.2.2.2.2.1⟩:qHl)) (fun x y r=>.c (.o (.own 2))) fun x y r=>[.cells 37 [.vS r.1.text,.vI r.1.at_,.bsl 1,.vI r.1.open_,.vI r.1.err,.vI r.1.bad],.bag qAk 44 r.1.out,.row .str 9 r.2]
theorem zci_val:qAj Tryz.prog 37 zci_c:=vl1 zci_q [.tmp 2] 43 5 2 (raws:=[15]) (show qAu zci_L zci_G 2 5 43 [(0,zci_b0),(1,zci_b1),(2,zci_b2)] from ⟨zci_sub0,zci_sub1,zci_sub2,tV⟩) (qAl ⟨zch_ok,zca_ok,tV⟩) fun x y=>by
 simp only [zci_s,-eq_self,qAc,qAe,obA,obS,slL,slR,qAd];kernel_rfl
def zci_w:CQ:=qBh [(0,some 2,some ((.bag qAk),44))] (qBs [true,true] zci_c)
theorem zci_ok:qAg Tryz.prog 37 zci_w:=qAs zci_val
def zck_b0:IQ:=(.seq (.block 0 (.seq (rg 20 [oM 21 t0,oP 22 (.call 26 [t21]),oP 23 (.bi .eql t22 (.v (.string ⟨#[99,111,110,116,97,105,110,115]⟩))),oM 20 t23]) (.cond t20 (.seq (rg 3 [oP 2 (.mv (vI 11)),oP 3 (.mv (vI 8))]) (.cn [2,3] .ret)) (.seq (rg 24 [oM 25 t5,oP 26 (.bi .eql t25 (.v (.string ⟨#[33,61]⟩))),oM 24 t26]) (.cond t24 (.seq (rg 3 [oP 2 (.mv (vI 6)),oP 3 (.mv (vI 2))]) (.cn [2,3] .ret)) (.seq (rg 27 [oM 28 t5,oP 29 (.bi .eql t28 (.v (.string ⟨#[60,61]⟩))),oM 27 t29]) (.cond t27 (.seq (rg 3 [oP 2 (.mv (vI 8)),oP 3 (.mv (vI 2))]) (.cn [2,3] .ret)) (.seq (rg 30 [oM 31 t5,oP 32 (.bi .eql t31 (.v (.string ⟨#[62,61]⟩))),oM 30 t32]) (.cond t30 (.seq (rg 3 [oP 2 (.mv (vI 10)),oP 3 (.mv (vI 2))]) (.cn [2,3] .ret)) (.seq (rg 33 [oM 34 t4,oP 35 (.index t34 (vI 0)),oP 36 (.bi .eql t35 (vC 61)),oM 33 t36]) (.cond t33 (.seq (rg 3 [oP 2 (.mv (vI 5)),oP 3 (.mv (vI 1))]) (.cn [2,3] .ret)) (.seq (rg 37 [oM 38 t4,oP 39 (.index t38 (vI 0)),oP 40 (.bi .eql t39 (vC 60)),oM 37 t40]) (.cond t37 (.seq (rg 3 [oP 2 (.mv (vI 7)),oP 3 (.mv (vI 1))]) (.cn [2,3] .ret)) (.seq (rg 41 [oM 42 t4,oP 43 (.index t42 (vI 0)),oP 44 (.bi .eql t43 (vC 62)),oM 41 t44]) (.cond t41 (.seq (rg 3 [oP 2 (.mv (vI 9)),oP 3 (.mv (vI 1))]) (.cn [2,3] .ret)) .skip))))))))))))))) (.seq (rg 3 [oP 2 (.mv (vI 0)),oP 3 (.mv (vI 0))]) (.cn [2,3] .ret)))
def zck_q:IQ:=(.seq (rg 3 [oP 2 (.mv (vI 0)),oP 3 (.mv (vI 0))]) (.seq (.reg 4 (some [0,1,2,3,4,5,6,7,8,9]) (rF 6 t0 0++rF 10 t0 1++[oP 14 (.sub none t9 (some t13) none),oM 4 t14])) (.seq (rg 5 [oP 5 (.mv (.v (.string ⟨#[]⟩)))]) (.seq (.seq (rg 17 [oM 15 t4,oP 16 (.lenS t15),oP 17 (.bi .gtr t16 (vI 1))]) (.cond t17 (rg 5 [oM 18 t4,oP 19 (.sub none t18 none (some (vI 2))),oM 5 t19]) .skip)) (.cn [0,4,5] (.sub 0 zck_b0))))))
def zck_p0 (rest two qHm:BA) (qHp qHt qHr qHy:Int) (qHz:qAt):Option (Int × Int) :=
 (zco_s (⟨qHm,qHp,qHz,qHt,qHr,qHy⟩:qHl)).bind fun r1 =>
 bif decide (r1=(⟨#[99,111,110,116,97,105,110,115]⟩:BA)) then (
  some ((11:Int),(8:Int)))
 else (
  bif decide (two=(⟨#[33,61]⟩:BA)) then (
   some ((6:Int),(2:Int)))
  else (
   bif decide (two=(⟨#[60,61]⟩:BA)) then (
    some ((8:Int),(2:Int)))
   else (
    bif decide (two=(⟨#[62,61]⟩:BA)) then (
     some ((10:Int),(2:Int)))
    else (
     gd (0≤(0:Int)∧(0:Int)<rest.size) <|
     bif decide ((bAt rest (0:Int))=(61:Int)) then (
      some ((5:Int),(1:Int)))
     else (
      gd (0≤(0:Int)∧(0:Int)<rest.size) <|
      bif decide ((bAt rest (0:Int))=(60:Int)) then (
       some ((7:Int),(1:Int)))
      else (
       gd (0≤(0:Int)∧(0:Int)<rest.size) <|
       bif decide ((bAt rest (0:Int))=(62:Int)) then (
        some ((9:Int),(1:Int)))
       else (
        some ((0:Int),(0:Int)))))))))
def zck_s (r_:qHl):Option (Int × Int) :=
 gd (0≤r_.at_∧r_.at_≤(r_.text.size:Int)∧(r_.text.size:Int)≤r_.text.size) <|
 bif decide ((1:Int)<((r_.text.extract (Int.toNat r_.at_) r_.text.size).size:Int)) then (
  gd (0≤(0:Int)∧(0:Int)≤(2:Int)∧(2:Int)≤(r_.text.extract (Int.toNat r_.at_) r_.text.size).size) <|
  (zck_p0 (r_.text.extract (Int.toNat r_.at_) r_.text.size) ((r_.text.extract (Int.toNat r_.at_) r_.text.size).extract 0 2) r_.text r_.at_ r_.open_ r_.err r_.bad r_.out).bind fun o2 =>
  some (o2.1,o2.2))
 else (
  (zck_p0 (r_.text.extract (Int.toNat r_.at_) r_.text.size) (⟨#[]⟩:BA) r_.text r_.at_ r_.open_ r_.err r_.bad r_.out).bind fun o3 =>
  some (o3.1,o3.2))
def zck_G:Nat→Option CQ:=tblQ [(26,zco_w)]
def zck_d0:=(dQS (qAa (dSO 0 (dH 0 0)) (qAa (dSO 4 dS) (qAa (dSO 5 dS) dNil))) zDRP8)
def zck_l0:SubQ:=mkL zck_d0 (fun x=>zck_p0 x.1.2.1 x.1.2.2.1 x.2.1.1 x.2.1.2.1 x.2.1.2.2.2.1 x.2.1.2.2.2.2.1 x.2.1.2.2.2.2.2.1 x.2.2.1) fun x r R kn kx kr=>kr ⟨[sL 2 (.vI r.1),sL 3 (.vI r.2)],[],[.cells 37 [.vS x.2.1.1,.vI x.2.1.2.1,.bsl 1,.vI x.2.1.2.2.2.1,.vI x.2.1.2.2.2.2.1,.vI x.2.1.2.2.2.2.2.1],.bag qAk 44 x.2.2.1]⟩
def zck_L:Nat→SubQ:=tblL [(0,zck_l0)]
theorem zck_sub0:qA0 zck_L zck_G 2 6 45 0 zck_b0:=qAp (show zck_L 0=zck_l0 from by kernel_rfl) fun x R kn kx kr=>by
 simp only [zck_p0,-eq_self,qAc,qAe,obA,obS,slL,slR,qAd];kernel_rfl
def zck_c:CS:=mkC (qAa (dVC (dCO (dH 0 0))) dNil) (qAa zDRP2 (qAa qB8 dNil)) (fun x y=>zck_s (⟨y.1.1,y.1.2.1,y.2.1,y.1.2.2.2.1,y.1.2.2.2.2.1,y.1.2.2.2.2.2.1⟩:qHl)) (fun x y r=>.tup [.o (.vI r.1),.o (.vI r.2)]) fun x y r=>[.cells 37 [.vS y.1.1,.vI y.1.2.1,.bsl 1,.vI y.1.2.2.2.1,.vI y.1.2.2.2.2.1,.vI y.1.2.2.2.2.2.1],.bag qAk 44 y.2.1]
theorem zck_val:qAj Tryz.prog 47 zck_c:=vl1 zck_q [.tmp 2,.tmp 3] 45 6 2 (show qAu zck_L zck_G 2 6 45 [(0,zck_b0)] from ⟨zck_sub0,tV⟩) (qAl ⟨zco_ok,tV⟩) fun x y=>by
 simp only [zck_s,-eq_self,qAc,qAe,obA,obS,slL,slR,qAd];kernel_rfl
def zck_w:CQ:=qBh [(0,some 2,some ((.bag qAk),44))] (qBs [true,true] zck_c)
theorem zck_ok:qAg Tryz.prog 47 zck_w:=qAs zck_val
def zcf_b0:IQ:=(.loop [0,3] (.seq (.seq (rg 70 ([oM 10 t3]++rF 11 t0 0++[oP 15 (.lenS t14),oP 16 (.bi .lss t10 t15),oM 17 t16]++rH oF 18 t0 0 17++[oF 22 (.mv t3) 17,oF 23 (.index t21 t22) 17,oF 24 (.call 40 [t23]) 17,oF 25 (.mv t24) 17]++rH oE 26 t0 0 25++[oE 30 (.mv t3) 25,oE 31 (.index t29 t30) 25,oE 32 (.bi .eql t31 (vC 43)) 25,oF 33 (.pick t25 vT t32) 17,oF 34 (.mv t33) 17]++rH oE 35 t0 0 34++[oE 39 (.mv t3) 34,oE 40 (.index t38 t39) 34,oE 41 (.bi .eql t40 (vC 45)) 34,oF 42 (.pick t34 vT t41) 17,oF 43 (.mv t42) 17]++rH oE 44 t0 0 43++[oE 48 (.mv t3) 43,oE 49 (.index t47 t48) 43,oE 50 (.bi .eql t49 (vC 46)) 43,oF 51 (.pick t43 vT t50) 17,oF 52 (.mv t51) 17]++rH oE 53 t0 0 52++[oE 57 (.mv t3) 52,oE 58 (.index t56 t57) 52,oE 59 (.bi .eql t58 (vC 101)) 52,oF 60 (.pick t52 vT t59) 17,oF 61 (.mv t60) 17]++rH oE 62 t0 0 61++[oE 66 (.mv t3) 61,oE 67 (.index t65 t66) 61,oE 68 (.bi .eql t67 (vC 69)) 61,oF 69 (.pick t61 vT t68) 17,oP 70 (.pick t17 t69 vF)])) (.cond t70 .skip (.cn [0,3] (.exit 0)))) (.block 1 (rg 3 [oM 71 t3,oP 72 (.bi .add t71 (vI 1)),oM 3 t72]))))
def zcf_q:IQ:=(.seq (rg 2 [oP 2 (.mv (.v (.string ⟨#[]⟩)))]) (.seq (rg 3 (rF 6 t0 1++[oM 3 t9])) (.seq (.block 0 (.cn [0,3] (.sub 0 zcf_b0))) (.seq (.reg 4 (some [0,1,2,3,4,5,6,7,8,9,10]) (rF 73 t0 0++rF 77 t0 1++[oM 81 t3,oP 82 (.sub none t76 (some t80) (some t81)),oM 4 t82])) (.seq (rg 5 [oM 83 t4,oP 84 (.call 67 [t83]),oM 5 t84]) (.seq (.seq (rg 86 [oM 85 t5,oP 86 (.un .not t85)]) (.cond t86 (.seq (rg 92 ([oM 87 t0]++rF 88 t0 1++[oP 92 (.call 13 [t87,(vI 180),t91])])) (.seq (rg 2 [oP 2 (.mv (.v (.string ⟨#[]⟩)))]) (.cn [2] .ret))) .skip)) (.seq (rg 0 ([oM 93 t0,oM 94 t3]++rS 95 t93 1 t94)) (.seq (rg 2 [oM 97 t4,oM 2 t97]) (.cn [2] .ret)))))))))
def qF7 (end_:Int) (qHm:BA):Option (Int ⊕ Int) :=
 gd ((decide (end_<(qHm.size:Int)))=true→0≤end_∧end_<qHm.size) <|
 bif decide (end_<(qHm.size:Int)) then (
  (zcp_s (bAt qHm end_)).bind fun r6 =>
  gd (r6=false→0≤end_∧end_<qHm.size) <|
  gd ((r6 || (decide ((bAt qHm end_)=(43:Int))))=false→0≤end_∧end_<qHm.size) <|
  gd (((r6 || (decide ((bAt qHm end_)=(43:Int)))) || (decide ((bAt qHm end_)=(45:Int))))=false→0≤end_∧end_<qHm.size) <|
  gd ((((r6 || (decide ((bAt qHm end_)=(43:Int)))) || (decide ((bAt qHm end_)=(45:Int)))) || (decide ((bAt qHm end_)=(46:Int))))=false→0≤end_∧end_<qHm.size) <|
  gd (((((r6 || (decide ((bAt qHm end_)=(43:Int)))) || (decide ((bAt qHm end_)=(45:Int)))) || (decide ((bAt qHm end_)=(46:Int)))) || (decide ((bAt qHm end_)=(101:Int))))=false→0≤end_∧end_<qHm.size) <|
  bif (((((r6 || (decide ((bAt qHm end_)=(43:Int)))) || (decide ((bAt qHm end_)=(45:Int)))) || (decide ((bAt qHm end_)=(46:Int)))) || (decide ((bAt qHm end_)=(101:Int)))) || (decide ((bAt qHm end_)=(69:Int)))) then (
   gd (qAf (end_+(1:Int))) <|
   some (.inl (end_+(1:Int))))
  else (
   some (.inr end_)))
 else (
  some (.inr end_))
def zcf_p0 (end_:Int) (qHm:BA):Option Int :=
 qAw (fun x:Int=>qF7 x qHm) end_
def zcf_s (r_:qHl):Option (qHl × BA) :=
 (zcf_p0 r_.at_ r_.text).bind fun o7 =>
 gd (0≤r_.at_∧r_.at_≤o7∧o7≤r_.text.size) <|
 (zct_s (r_.text.extract (Int.toNat r_.at_) (Int.toNat o7))).bind fun r8 =>
 bif (!r8) then (
  (qF6 r_ (180:Int) r_.at_).bind fun r9 =>
  some (r9,(⟨#[]⟩:BA)))
 else (
  some ({r_ with at_:=o7:qHl},(r_.text.extract (Int.toNat r_.at_) (Int.toNat o7))))
def zcf_G:Nat→Option CQ:=tblQ [(40,zcp_w),(67,zct_w),(13,zcb_w)]
def zcf_d0:=(dQS zDRP6 zDRP8)
def zcf_l0:SubQ:=mkL zcf_d0 (fun x=>zcf_p0 x.1.2.1 x.2.1.1) fun x r R kn kx kr=>kx 0 ⟨[sL 0 (.hd 0 0),sL 3 (.vI r)],[],[.cells 37 [.vS x.2.1.1,.vI x.2.1.2.1,.bsl 1,.vI x.2.1.2.2.2.1,.vI x.2.1.2.2.2.2.1,.vI x.2.1.2.2.2.2.2.1],.bag qAk 44 x.2.2.1]⟩
def zcf_L:Nat→SubQ:=tblL [(0,zcf_l0)]
theorem zcf_sub0:qA0 zcf_L zcf_G 2 6 98 0 zcf_b0:=qAp (show zcf_L 0=zcf_l0 from by kernel_rfl) fun x R kn kx kr=>qAm (step:=fun y=>qF7 y x.2.1.1) (enc:=fun (y:Int)=>zcf_d0.e ((x.1.1,y,x.1.2.2),x.2)) (fun y=>by kernel_rfl) (fun y ki=>by simp only [qF7,-eq_self,qAc,qAe,obA,obS,slL,slR,qAd]; kernel_rfl) x.1.2.1
def zcf_c:CS:=mkC (qAa (dVC (dCO (dH 0 0))) dNil) (qAa zDRP2 (qAa qB8 dNil)) (fun x y=>zcf_s (⟨y.1.1,y.1.2.1,y.2.1,y.1.2.2.2.1,y.1.2.2.2.2.1,y.1.2.2.2.2.2.1⟩:qHl)) (fun x y r=>.c (.o (.vS r.2))) fun x y r=>[.cells 37 [.vS r.1.text,.vI r.1.at_,.bsl 1,.vI r.1.open_,.vI r.1.err,.vI r.1.bad],.bag qAk 44 r.1.out]
theorem zcf_val:qAj Tryz.prog 57 zcf_c:=vl1 zcf_q [.tmp 2] 98 6 2 (show qAu zcf_L zcf_G 2 6 98 [(0,zcf_b0)] from ⟨zcf_sub0,tV⟩) (qAl ⟨zcp_ok,zct_ok,zcb_ok,tV⟩) fun x y=>by
 simp only [zcf_s,-eq_self,qAc,qAe,obA,obS,slL,slR,qAd];kernel_rfl
def zcf_w:CQ:=qBh [(0,some 2,some ((.bag qAk),44))] (qBs [true,true] zcf_c)
theorem zcf_ok:qAg Tryz.prog 57 zcf_w:=qAs zcf_val
def zcn_q:IQ:=(.seq (rg 5 [oP 4 (.mv (vI 0)),oP 5 (.mv (.v (.string ⟨#[]⟩)))]) (.seq (rg 6 [oM 11 t0,oP 12 (.call 12 [t11]),oM 6 t12]) (.seq (.seq (rg 14 [oM 13 t6,oP 14 (.un .not t13)]) (.cond t14 (.seq (rg 20 ([oM 15 t0]++rF 16 t0 1++[oP 20 (.call 13 [t15,(vI 180),t19])])) (.seq (rg 5 [oP 4 (.mv (vI 0)),oP 5 (.mv (.v (.string ⟨#[]⟩)))]) (.cn [4,5] .ret))) .skip)) (.seq (.reg 7 (some [0,1,2,3,4,5,6,7,8,9]) (rF 21 t0 0++rF 25 t0 1++[oP 29 (.index t24 t28),oM 7 t29])) (.seq (rg 8 [oM 30 t0,oP 31 (.call 26 [t30]),oM 8 t31]) (.seq (.block 0 (.seq (rg 32 [oM 33 t7,oP 34 (.bi .eql t33 (vC 34)),oM 32 t34]) (.cond t32 (.seq (rg 9 [oM 35 t0,oP 36 (.call 54 [t35]),oM 9 t36]) (.seq (rg 5 [oM 37 t9,oP 4 (.mv (vI 5)),oM 5 t37]) (.cn [4,5] .ret))) (.seq (rg 38 [oM 39 t1,oM 38 t39]) (.cond t38 .skip (.seq (rg 40 [oM 41 t7,oP 42 (.call 40 [t41]),oM 43 t42,oE 44 (.mv t7) 43,oE 45 (.bi .eql t44 (vC 45)) 43,oP 46 (.pick t43 vT t45),oM 40 t46]) (.cond t40 (.seq (rg 10 [oM 47 t0,oP 48 (.call 57 [t47]),oM 10 t48]) (.seq (rg 5 [oM 49 t10,oP 4 (.mv (vI 4)),oM 5 t49]) (.cn [4,5] .ret))) (.seq (rg 50 [oM 51 t8,oP 52 (.bi .eql t51 (.v (.string ⟨#[116,114,117,101]⟩))),oM 50 t52]) (.cond t50 (.seq (rg 0 ([oM 53 t0]++rF 54 t0 1++[oP 58 (.bi .add t57 (vI 4))]++rS 59 t53 1 t58)) (.seq (rg 5 [oP 4 (.mv (vI 3)),oP 5 (.mv (.v (.string ⟨#[]⟩)))]) (.cn [4,5] .ret))) (.seq (rg 61 [oM 62 t8,oP 63 (.bi .eql t62 (.v (.string ⟨#[102,97,108,115,101]⟩))),oM 61 t63]) (.cond t61 (.seq (rg 0 ([oM 64 t0]++rF 65 t0 1++[oP 69 (.bi .add t68 (vI 5))]++rS 70 t64 1 t69)) (.seq (rg 5 [oP 4 (.mv (vI 2)),oP 5 (.mv (.v (.string ⟨#[]⟩)))]) (.cn [4,5] .ret))) (.seq (rg 72 [oM 73 t8,oP 74 (.bi .eql t73 (.v (.string ⟨#[110,117,108,108]⟩))),oM 72 t74]) (.cond t72 (.seq (rg 0 ([oM 75 t0]++rF 76 t0 1++[oP 80 (.bi .add t79 (vI 4))]++rS 81 t75 1 t80)) (.seq (rg 5 [oP 4 (.mv (vI 1)),oP 5 (.mv (.v (.string ⟨#[]⟩)))]) (.cn [4,5] .ret))) .skip))))))))))))) (.seq (rg 88 ([oM 83 t0]++rF 84 t0 1++[oP 88 (.call 13 [t83,(vI 180),t87])])) (.seq (rg 5 [oP 4 (.mv (vI 0)),oP 5 (.mv (.v (.string ⟨#[]⟩)))]) (.cn [4,5] .ret)))))))))
def zcn_s (r_:qHl) (only:Bool):Option (qHl × Int × BA) :=
 (zca_s r_).bind fun r3 =>
 bif (!r3.2) then (
  (qF6 r3.1 (180:Int) r3.1.at_).bind fun r4 =>
  some (r4,(0:Int),(⟨#[]⟩:BA)))
 else (
  gd (0≤r3.1.at_∧r3.1.at_<r3.1.text.size) <|
  (zco_s r3.1).bind fun r5 =>
  bif decide ((bAt r3.1.text r3.1.at_)=(34:Int)) then (
   (zcm_s r3.1).bind fun r6 =>
   some (r6.1,(5:Int),r6.2))
  else (
   bif only then (
    (qF6 r3.1 (180:Int) r3.1.at_).bind fun r7 =>
    some (r7,(0:Int),(⟨#[]⟩:BA)))
   else (
    (zcp_s (bAt r3.1.text r3.1.at_)).bind fun r8 =>
    bif (r8 || (decide ((bAt r3.1.text r3.1.at_)=(45:Int)))) then (
     (zcf_s r3.1).bind fun r9 =>
     some (r9.1,(4:Int),r9.2))
    else (
     bif decide (r5=(⟨#[116,114,117,101]⟩:BA)) then (
      gd (qAf (r3.1.at_+(4:Int))) <|
      some ({r3.1 with at_:=(r3.1.at_+(4:Int)):qHl},(3:Int),(⟨#[]⟩:BA)))
     else (
      bif decide (r5=(⟨#[102,97,108,115,101]⟩:BA)) then (
       gd (qAf (r3.1.at_+(5:Int))) <|
       some ({r3.1 with at_:=(r3.1.at_+(5:Int)):qHl},(2:Int),(⟨#[]⟩:BA)))
      else (
       bif decide (r5=(⟨#[110,117,108,108]⟩:BA)) then (
        gd (qAf (r3.1.at_+(4:Int))) <|
        some ({r3.1 with at_:=(r3.1.at_+(4:Int)):qHl},(1:Int),(⟨#[]⟩:BA)))
       else (
        (qF6 r3.1 (180:Int) r3.1.at_).bind fun r10 =>
        some (r10,(0:Int),(⟨#[]⟩:BA)))))))))
def zcn_c:CS:=mkC (qAa (dVC (dCO (dH 0 0))) (qAa (dVC (dCO dB)) dNil)) (qAa zDRP2 (qAa qB8 dNil)) (fun x y=>zcn_s (⟨y.1.1,y.1.2.1,y.2.1,y.1.2.2.2.1,y.1.2.2.2.2.1,y.1.2.2.2.2.2.1⟩:qHl) x.2.1) (fun x y r=>.tup [.o (.vI r.2.1),.o (.vS r.2.2)]) fun x y r=>[.cells 37 [.vS r.1.text,.vI r.1.at_,.bsl 1,.vI r.1.open_,.vI r.1.err,.vI r.1.bad],.bag qAk 44 r.1.out]
theorem zcn_val:qAj Tryz.prog 48 zcn_c:=vl0 zcn_q [.tmp 4,.tmp 5] 89 11 2 [(12,zca_w),(13,zcb_w),(26,zco_w),(54,zcm_w),(40,zcp_w),(57,zcf_w)] ⟨zca_ok,zcb_ok,zco_ok,zcm_ok,zcp_ok,zcf_ok,tV⟩ fun x y=>by
 simp only [zcn_s,-eq_self,qAc,qAe,obA,obS,slL,slR,qAd];kernel_rfl
def zcn_w:CQ:=qBh [(0,some 2,some ((.bag qAk),44))] (qBs [true,true] zcn_c)
theorem zcn_ok:qAg Tryz.prog 48 zcn_w:=qAs zcn_val
def zcl_q:IQ:=(.seq (rg 2 [oP 2 (.mv (vI 0))]) (.seq (rg 3 [oM 9 t0,oP 10 (.call 37 [t9]),oM 3 t10]) (.seq (.seq (rg 15 (rF 11 t0 4++[oP 15 (.bi .neq t14 (vI 0))])) (.cond t15 (.seq (rg 2 [oP 2 (.mv (vI 0))]) (.canon [(1000000,some 2,.u8,0),(3000001,none,.u8,0)] [2] .ret)) .skip)) (.seq (rg 4 [oM 16 t0,oP 17 (.call 12 [t16]),oM 4 t17]) (.seq (.seq (rg 19 [oM 18 t4,oP 19 (.un .not t18)]) (.cond t19 (.seq (rg 25 ([oM 20 t0]++rF 21 t0 1++[oP 25 (.call 13 [t20,(vI 180),t24])])) (.seq (rg 2 [oP 2 (.mv (vI 0))]) (.canon [(1000000,some 2,.u8,0),(3000001,none,.u8,0)] [2] .ret))) .skip)) (.seq (rg 6 [oM 27 t0,oP 28 (.call 47 [t27]),oM 26 t28,oP 29 (.extract t26 0),oP 30 (.extract t26 1),oM 5 t29,oM 6 t30]) (.seq (.seq (rg 32 [oM 31 t5,oP 32 (.bi .eql t31 (vI 0))]) (.cond t32 (.seq (rg 38 ([oM 33 t0]++rF 34 t0 1++[oP 38 (.call 13 [t33,(vI 180),t37])])) (.seq (rg 2 [oP 2 (.mv (vI 0))]) (.canon [(1000000,some 2,.u8,0),(3000001,none,.u8,0)] [2] .ret))) .skip)) (.seq (rg 0 ([oM 39 t0]++rF 40 t0 1++[oM 44 t6,oP 45 (.bi .add t43 t44)]++rS 46 t39 1 t45)) (.seq (rg 8 [oM 49 t0,oM 50 t5,oP 51 (.bi .eql t50 (vI 11)),oP 52 (.call 48 [t49,t51]),oM 48 t52,oP 53 (.extract t48 0),oP 54 (.extract t48 1),oM 7 t53,oM 8 t54]) (.seq (rg 2 [oM 55 t0,oM 56 t5,oM 57 t3,oM 58 t7,oM 59 t8,oP 60 (.build [.int .i64 0,.int .i64 0,.int .i64 0,.slice none 0 0,.int .i64 0,.string ⟨#[]⟩] [(0,1,t56),(1,1,(.v (.int .i64 (-1)))),(2,1,(.v (.int .i64 (-1)))),(3,1,t57),(4,1,t58),(5,1,t59)]),oP 61 (.call 27 [t55,t60]),oM 2 t61]) (.canon [(1000000,some 2,.u8,0),(3000001,none,.u8,0)] [2] .ret)))))))))))
def zcl_s (r_:qHl):Option (qHl × Int) :=
 (zci_s r_).bind fun r9 =>
 bif (!decide (r9.1.err=(0:Int))) then (
  some (r9.1,(0:Int)))
 else (
  (zca_s r9.1).bind fun r10 =>
  bif (!r10.2) then (
   (qF6 r10.1 (180:Int) r10.1.at_).bind fun r11 =>
   some (r11,(0:Int)))
  else (
   (zck_s r10.1).bind fun r12 =>
   bif decide (r12.1=(0:Int)) then (
    (qF6 r10.1 (180:Int) r10.1.at_).bind fun r13 =>
    some (r13,(0:Int)))
   else (
    gd (qAf (r10.1.at_+r12.2)) <|
    (zcn_s {r10.1 with at_:=(r10.1.at_+r12.2):qHl} (decide (r12.1=(11:Int)))).bind fun r14 =>
    (zce_s r14.1 (⟨r12.1,(-1:Int),(-1:Int),r9.2,r14.2.1,r14.2.2⟩:qHq)).bind fun r15 =>
    some (r15.1,r15.2))))
def zcl_c:CS:=mkC (qAa (dVC (dCO (dH 0 0))) dNil) (qAa zDRP2 (qAa qB8 dNil)) (fun x y=>zcl_s (⟨y.1.1,y.1.2.1,y.2.1,y.1.2.2.2.1,y.1.2.2.2.2.1,y.1.2.2.2.2.2.1⟩:qHl)) (fun x y r=>.c (.o (.vI r.2))) fun x y r=>[.cells 37 [.vS r.1.text,.vI r.1.at_,.bsl 2,.vI r.1.open_,.vI r.1.err,.vI r.1.bad],.dead,.bag qAk 44 r.1.out]
theorem zcl_val:qAj Tryz.prog 38 zcl_c:=vl0 zcl_q [.tmp 2] 62 9 2 [(37,zci_w),(12,zca_w),(13,zcb_w),(47,zck_w),(48,zcn_w),(27,zce_w)] ⟨zci_ok,zca_ok,zcb_ok,zck_ok,zcn_ok,zce_ok,tV⟩ fun x y=>by
 simp only [zcl_s,-eq_self,qAc,qAe,obA,obS,slL,slR,qAd];kernel_rfl
def zcl_w:CQ:=qBh [(0,some 2,some ((.bag qAk),44))] (qBs [true,true] zcl_c)
theorem zcl_ok:qAg Tryz.prog 38 zcl_w:=qAs zcl_val
def zbz_da:=(qAa (dVC (dCO (dH 0 0))) dNil)
def zbz_db:=(qAa zDRP2 (qAa qB8 dNil))
def zbz_cs (self:qHl→Option (qHl × Int)):CS:=mkC zbz_da zbz_db (fun x y=>self (⟨y.1.1,y.1.2.1,y.2.1,y.1.2.2.2.1,y.1.2.2.2.2.1,y.1.2.2.2.2.2.1⟩:qHl)) (fun x y r=>.c (.o (.vI r.2))) fun x y r=>[.cells 37 [.vS r.1.text,.vI r.1.at_,.bsl 2,.vI r.1.open_,.vI r.1.err,.vI r.1.bad],.dead,.bag qAk 44 r.1.out]
def qF5 (self:qHl→Option (qHl × Int)):CQ:=qBh [(0,some 2,some ((.bag qAk),44))] (qBs [true,true] (zbz_cs self))
def zcc_b1:IQ:=(.loop [0,1,2,7] (.seq (.seq (rg 29 (rF 15 t0 4++[oP 19 (.bi .eql t18 (vI 0)),oM 20 t19,oF 21 (.mv t0) 20,oF 22 (.call 12 [t21]) 20,oP 23 (.pick t20 t22 vF),oM 24 t23,oF 25 (.mv t0) 24,oF 26 (.call 26 [t25]) 24,oF 27 (.mv t1) 24,oF 28 (.bi .eql t26 t27) 24,oP 29 (.pick t24 t28 vF)])) (.cond t29 .skip (.cn [7] (.exit 0)))) (.block 1 (.seq (rg 0 ([oM 30 t0]++rF 31 t0 1++[oM 35 t1,oP 36 (.lenS t35),oP 37 (.bi .add t34 t36)]++rS 38 t30 1 t37)) (.seq (rg 8 [oP 8 (.mv (vI 0))]) (.seq (.seq (rg 41 [oM 40 t2,oP 41 (.bi .eql t40 (vI 2))]) (.cond t41 (rg 8 [oM 42 t0,oP 43 (.call 21 [t42,(.v (.string ⟨#[97,110,100]⟩)),(vI 1)]),oM 8 t43]) (rg 8 [oM 44 t0,oP 45 (.call 25 [t44]),oM 8 t45]))) (rg 7 [oM 46 t0,oM 47 t2,oM 48 t7,oM 49 t8,oP 50 (.build [.int .i64 0,.int .i64 0,.int .i64 0,.slice none 0 0,.int .i64 0,.string ⟨#[]⟩] [(0,1,t47),(1,1,t48),(2,1,t49)]),oP 51 (.call 27 [t46,t50]),oM 7 t51])))))))
def zcc_b0:IQ:=(.seq (.block 0 (.cn [0,1,2,7] (.sub 1 zcc_b1))) (.seq (rg 6 [oM 52 t7,oM 6 t52]) (.cn [6] .ret)))
def zcc_q:IQ:=(.seq (rg 6 [oP 6 (.mv (vI 0))]) (.seq (rg 7 [oP 7 (.mv (vI 0))]) (.seq (.seq (rg 10 [oM 9 t2,oP 10 (.bi .eql t9 (vI 2))]) (.cond t10 (rg 7 [oM 11 t0,oP 12 (.call 21 [t11,(.v (.string ⟨#[97,110,100]⟩)),(vI 1)]),oM 7 t12]) (rg 7 [oM 13 t0,oP 14 (.call 25 [t13]),oM 7 t14]))) (.cn [0,1,2,7] (.sub 0 zcc_b0)))))
theorem zcc_chk:chk Tryz.prog 21 []=some (zcc_q.erase,[.tmp 6],53):=by kernel_rfl
def qDp (self:qHl→Option (qHl × Int)) (word:BA) (op a:Int) (qHm:BA) (qHp qHt qHr qHy:Int) (qHz:qAt):Option ((Int × BA × Int × Int × Int × Int × qAt) ⊕ (Int × BA × Int × Int × Int × Int × qAt)) :=
 bif decide (qHr=(0:Int)) then (
  (zca_s (⟨qHm,qHp,qHz,qHt,qHr,qHy⟩:qHl)).bind fun r44 =>
  bif r44.2 then (
   (zco_s r44.1).bind fun r45 =>
   bif decide (r45=word) then (
    gd (qAf (r44.1.at_+(word.size:Int))) <|
    bif decide (op=(2:Int)) then (
     none)
    else (
     (self {r44.1 with at_:=(r44.1.at_+(word.size:Int)):qHl}).bind fun r46 =>
     (zce_s r46.1 (⟨op,a,r46.2,[],(0:Int),(⟨#[]⟩:BA)⟩:qHq)).bind fun r47 =>
     some (.inl (r47.2,r47.1.text,r47.1.at_,r47.1.open_,r47.1.err,r47.1.bad,r47.1.out))))
   else (
    some (.inr (a,r44.1.text,r44.1.at_,r44.1.open_,r44.1.err,r44.1.bad,r44.1.out))))
  else (
   some (.inr (a,r44.1.text,r44.1.at_,r44.1.open_,r44.1.err,r44.1.bad,r44.1.out))))
 else (
  some (.inr (a,qHm,qHp,qHt,qHr,qHy,qHz)))
def zcc_p1 (self:qHl→Option (qHl × Int)) (word:BA) (op a:Int) (qHm:BA) (qHp qHt qHr qHy:Int) (qHz:qAt):Option (Int × BA × Int × Int × Int × Int × qAt) :=
 qAw (fun x:(Int × BA × Int × Int × Int × Int × qAt)=>qDp self word op x.1 x.2.1 x.2.2.1 x.2.2.2.1 x.2.2.2.2.1 x.2.2.2.2.2.1 x.2.2.2.2.2.2) (a,qHm,qHp,qHt,qHr,qHy,qHz)
def zcc_p0 (self:qHl→Option (qHl × Int)) (word:BA) (op a:Int) (qHm:BA) (qHp qHt qHr qHy:Int) (qHz:qAt):Option (Int × BA × Int × Int × Int × Int × qAt) :=
 (zcc_p1 self word op a qHm qHp qHt qHr qHy qHz).bind fun o48 =>
 some (o48.1,o48.2.1,o48.2.2.1,o48.2.2.2.1,o48.2.2.2.2.1,o48.2.2.2.2.2.1,o48.2.2.2.2.2.2)
def zcc_t (self:qHl→Option (qHl × Int)) (r_:qHl) (word:BA) (op:Int):Option (qHl × Int) :=
 (self r_).bind fun r43 =>
 (zcc_p0 self word (1:Int) r43.2 r43.1.text r43.1.at_ r43.1.open_ r43.1.err r43.1.bad r43.1.out).bind fun o49 =>
 some ((⟨o49.2.1,o49.2.2.1,o49.2.2.2.2.2.2,o49.2.2.2.1,o49.2.2.2.2.1,o49.2.2.2.2.2.1⟩:qHl),o49.1)
def zcc_G (self:qHl→Option (qHl × Int)):Nat→Option CQ:=tblQ [(25,qF5 self),(12,zca_w),(26,zco_w),(27,zce_w)]
theorem zcc_Gok (self:qHl→Option (qHl × Int)) (hself:qAg Tryz.prog 25 (qF5 self)):∀f C,(zcc_G self) f=some C→qAg Tryz.prog f C:=qAl ⟨hself,zca_ok,zco_ok,zce_ok,tV⟩
def zDRP4:=(qAa (qEr 37 (qAa dS (qAa dZ (qAa (dBsl 2) zDRP13)))) zDRP15)
def zDRP7:=(qAa (dSO 0 (dH 0 0)) (qAa (dSO 1 dS) (qAa (dSO 2 dZ) (qAa (dSO 7 dZ) dNil))))
def zcc_d1:=(dQS zDRP7 zDRP4)
def zcc_l1 (self:qHl→Option (qHl × Int)):SubQ:=mkL zcc_d1 (fun x=>zcc_p1 self x.1.2.1 x.1.2.2.1 x.1.2.2.2.1 x.2.1.1 x.2.1.2.1 x.2.1.2.2.2.1 x.2.1.2.2.2.2.1 x.2.1.2.2.2.2.2.1 x.2.2.2.1) fun x r R kn kx kr=>kx 0 ⟨[sL 7 (.vI r.1)],[],[.cells 37 [.vS r.2.1,.vI r.2.2.1,.bsl 2,.vI r.2.2.2.1,.vI r.2.2.2.2.1,.vI r.2.2.2.2.2.1],.dead,.bag qAk 44 r.2.2.2.2.2.2]⟩
def zcc_d0:=(dQS zDRP7 zDRP4)
def zcc_l0 (self:qHl→Option (qHl × Int)):SubQ:=mkL zcc_d0 (fun x=>zcc_p0 self x.1.2.1 x.1.2.2.1 x.1.2.2.2.1 x.2.1.1 x.2.1.2.1 x.2.1.2.2.2.1 x.2.1.2.2.2.2.1 x.2.1.2.2.2.2.2.1 x.2.2.2.1) fun x r R kn kx kr=>kr ⟨[sL 6 (.vI r.1)],[],[.cells 37 [.vS r.2.1,.vI r.2.2.1,.bsl 2,.vI r.2.2.2.1,.vI r.2.2.2.2.1,.vI r.2.2.2.2.2.1],.dead,.bag qAk 44 r.2.2.2.2.2.2]⟩
def zcc_L (self:qHl→Option (qHl × Int)):Nat→SubQ:=tblL [(1,zcc_l1 self),(0,zcc_l0 self)]
theorem zcc_sub1 (self:qHl→Option (qHl × Int)):qA0 (zcc_L self) (zcc_G self) 2 9 53 1 zcc_b1:=qAp (show (zcc_L self) 1=(zcc_l1 self) from by kernel_rfl) fun x R kn kx kr=>qAm (step:=fun y=>qDp self x.1.2.1 x.1.2.2.1 y.1 y.2.1 y.2.2.1 y.2.2.2.1 y.2.2.2.2.1 y.2.2.2.2.2.1 y.2.2.2.2.2.2) (enc:=fun (y:Int × BA × Int × Int × Int × Int × qAt)=>zcc_d1.e ((x.1.1,x.1.2.1,x.1.2.2.1,y.1,x.1.2.2.2.2),((y.2.1,y.2.2.1,x.2.1.2.2.1,y.2.2.2.1,y.2.2.2.2.1,y.2.2.2.2.2.1,x.2.1.2.2.2.2.2.2),x.2.2.1,y.2.2.2.2.2.2,x.2.2.2.2))) (fun y=>by kernel_rfl) (fun y ki=>by simp only [qDp,-eq_self,qAc,qAe,obA,obS,slL,slR,qAd]; kernel_rfl) (x.1.2.2.2.1,x.2.1.1,x.2.1.2.1,x.2.1.2.2.2.1,x.2.1.2.2.2.2.1,x.2.1.2.2.2.2.2.1,x.2.2.2.1)
theorem zcc_sub0 (self:qHl→Option (qHl × Int)):qA0 (zcc_L self) (zcc_G self) 2 9 53 0 zcc_b0:=qAp (show (zcc_L self) 0=(zcc_l0 self) from by kernel_rfl) fun x R kn kx kr=>by
 simp only [zcc_p0,-eq_self,qAc,qAe,obA,obS,slL,slR,qAd];kernel_rfl
theorem zcc_subs (self:qHl→Option (qHl × Int)):qBp (zcc_L self) (zcc_G self) 2 9 53 zcc_q:=qBt (show qAu (zcc_L self) (zcc_G self) 2 9 53 [(0,zcc_b0),(1,zcc_b1)] from ⟨(zcc_sub0 self),(zcc_sub1 self),tV⟩)
def zcc_da:=(qAa (dVC (dCO (dH 0 0))) (qAa (dVC (dCO dS)) (qAa (dVC (dCO (dIk .i64 1))) dNil)))
def zcc_db:=(qAa zDRP2 (qAa qB8 dNil))
def zcc_ct (self:qHl→Option (qHl × Int)):CS:=mkC zcc_da zcc_db (fun x y=>zcc_t self (⟨y.1.1,y.1.2.1,y.2.1,y.1.2.2.2.1,y.1.2.2.2.2.1,y.1.2.2.2.2.2.1⟩:qHl) x.2.1 (1:Int)) (fun x y r=>.c (.o (.vI r.2))) fun x y r=>[.cells 37 [.vS r.1.text,.vI r.1.at_,.bsl 2,.vI r.1.open_,.vI r.1.err,.vI r.1.bad],.dead,.bag qAk 44 r.1.out]
theorem zcc_val_t (self:qHl→Option (qHl × Int)) (hself:qAg Tryz.prog 25 (qF5 self)):qAj Tryz.prog 21 (zcc_ct self):=val_okC zcc_chk 9 (zcc_Gok self hself) 2 (fun x=>Nat.le_of_ble_eq_true rfl) (fun y=>rfl) (zcc_subs self) fun x y=>by
 simp only [zcc_t,-eq_self,qAc,qAe,obA,obS,slL,slR,qAd];kernel_rfl
def zcc_wt (self:qHl→Option (qHl × Int)):CQ:=qBh [(0,some 2,some ((.bag qAk),44))] (qBs [true,true] (zcc_ct self))
theorem zcc_okt (self:qHl→Option (qHl × Int)) (hself:qAg Tryz.prog 25 (qF5 self)):qAg Tryz.prog 21 (zcc_wt self):=qAs (zcc_val_t self hself)
def zcd_b1:IQ:=(.loop [0,1,2,7] (.seq (.seq (rg 29 (rF 15 t0 4++[oP 19 (.bi .eql t18 (vI 0)),oM 20 t19,oF 21 (.mv t0) 20,oF 22 (.call 12 [t21]) 20,oP 23 (.pick t20 t22 vF),oM 24 t23,oF 25 (.mv t0) 24,oF 26 (.call 26 [t25]) 24,oF 27 (.mv t1) 24,oF 28 (.bi .eql t26 t27) 24,oP 29 (.pick t24 t28 vF)])) (.cond t29 .skip (.cn [7] (.exit 0)))) (.block 1 (.seq (rg 0 ([oM 30 t0]++rF 31 t0 1++[oM 35 t1,oP 36 (.lenS t35),oP 37 (.bi .add t34 t36)]++rS 38 t30 1 t37)) (.seq (rg 8 [oP 8 (.mv (vI 0))]) (.seq (.seq (rg 41 [oM 40 t2,oP 41 (.bi .eql t40 (vI 2))]) (.cond t41 (rg 8 [oM 42 t0,oP 43 (.call 21 [t42,(.v (.string ⟨#[97,110,100]⟩)),(vI 1)]),oM 8 t43]) (rg 8 [oM 44 t0,oP 45 (.call 25 [t44]),oM 8 t45]))) (rg 7 [oM 46 t0,oM 47 t2,oM 48 t7,oM 49 t8,oP 50 (.build [.int .i64 0,.int .i64 0,.int .i64 0,.slice none 0 0,.int .i64 0,.string ⟨#[]⟩] [(0,1,t47),(1,1,t48),(2,1,t49)]),oP 51 (.call 27 [t46,t50]),oM 7 t51])))))))
def zcd_b0:IQ:=(.seq (.block 0 (.cn [0,1,2,7] (.sub 1 zcd_b1))) (.seq (rg 6 [oM 52 t7,oM 6 t52]) (.cn [6] .ret)))
def zcd_q:IQ:=(.seq (rg 6 [oP 6 (.mv (vI 0))]) (.seq (rg 7 [oP 7 (.mv (vI 0))]) (.seq (.seq (rg 10 [oM 9 t2,oP 10 (.bi .eql t9 (vI 2))]) (.cond t10 (rg 7 [oM 11 t0,oP 12 (.call 21 [t11,(.v (.string ⟨#[97,110,100]⟩)),(vI 1)]),oM 7 t12]) (rg 7 [oM 13 t0,oP 14 (.call 25 [t13]),oM 7 t14]))) (.cn [0,1,2,7] (.sub 0 zcd_b0)))))
theorem zcd_chk:chk Tryz.prog 21 []=some (zcd_q.erase,[.tmp 6],53):=by kernel_rfl
def qDq (self:qHl→Option (qHl × Int)) (word:BA) (op a:Int) (qHm:BA) (qHp qHt qHr qHy:Int) (qHz:qAt):Option ((Int × BA × Int × Int × Int × Int × qAt) ⊕ (Int × BA × Int × Int × Int × Int × qAt)) :=
 bif decide (qHr=(0:Int)) then (
  (zca_s (⟨qHm,qHp,qHz,qHt,qHr,qHy⟩:qHl)).bind fun r46 =>
  bif r46.2 then (
   (zco_s r46.1).bind fun r47 =>
   bif decide (r47=word) then (
    gd (qAf (r46.1.at_+(word.size:Int))) <|
    bif decide (op=(2:Int)) then (
     (zcc_t self {r46.1 with at_:=(r46.1.at_+(word.size:Int)):qHl} (⟨#[97,110,100]⟩:BA) (1:Int)).bind fun r48 =>
     (zce_s r48.1 (⟨op,a,r48.2,[],(0:Int),(⟨#[]⟩:BA)⟩:qHq)).bind fun r49 =>
     some (.inl (r49.2,r49.1.text,r49.1.at_,r49.1.open_,r49.1.err,r49.1.bad,r49.1.out)))
    else (
     (self {r46.1 with at_:=(r46.1.at_+(word.size:Int)):qHl}).bind fun r50 =>
     (zce_s r50.1 (⟨op,a,r50.2,[],(0:Int),(⟨#[]⟩:BA)⟩:qHq)).bind fun r51 =>
     some (.inl (r51.2,r51.1.text,r51.1.at_,r51.1.open_,r51.1.err,r51.1.bad,r51.1.out))))
   else (
    some (.inr (a,r46.1.text,r46.1.at_,r46.1.open_,r46.1.err,r46.1.bad,r46.1.out))))
  else (
   some (.inr (a,r46.1.text,r46.1.at_,r46.1.open_,r46.1.err,r46.1.bad,r46.1.out))))
 else (
  some (.inr (a,qHm,qHp,qHt,qHr,qHy,qHz)))
def zcd_p1 (self:qHl→Option (qHl × Int)) (word:BA) (op a:Int) (qHm:BA) (qHp qHt qHr qHy:Int) (qHz:qAt):Option (Int × BA × Int × Int × Int × Int × qAt) :=
 qAw (fun x:(Int × BA × Int × Int × Int × Int × qAt)=>qDq self word op x.1 x.2.1 x.2.2.1 x.2.2.2.1 x.2.2.2.2.1 x.2.2.2.2.2.1 x.2.2.2.2.2.2) (a,qHm,qHp,qHt,qHr,qHy,qHz)
def zcd_p0 (self:qHl→Option (qHl × Int)) (word:BA) (op a:Int) (qHm:BA) (qHp qHt qHr qHy:Int) (qHz:qAt):Option (Int × BA × Int × Int × Int × Int × qAt) :=
 (zcd_p1 self word op a qHm qHp qHt qHr qHy qHz).bind fun o52 =>
 some (o52.1,o52.2.1,o52.2.2.1,o52.2.2.2.1,o52.2.2.2.2.1,o52.2.2.2.2.2.1,o52.2.2.2.2.2.2)
def zcd_t (self:qHl→Option (qHl × Int)) (r_:qHl) (word:BA) (op:Int):Option (qHl × Int) :=
 (zcc_t self r_ (⟨#[97,110,100]⟩:BA) (1:Int)).bind fun r45 =>
 (zcd_p0 self word (2:Int) r45.2 r45.1.text r45.1.at_ r45.1.open_ r45.1.err r45.1.bad r45.1.out).bind fun o53 =>
 some ((⟨o53.2.1,o53.2.2.1,o53.2.2.2.2.2.2,o53.2.2.2.1,o53.2.2.2.2.1,o53.2.2.2.2.2.1⟩:qHl),o53.1)
def zcd_G (self:qHl→Option (qHl × Int)):Nat→Option CQ:=tblQ [(21,(zcc_wt self)),(12,zca_w),(26,zco_w),(27,zce_w),(25,qF5 self)]
theorem zcd_Gok (self:qHl→Option (qHl × Int)) (hself:qAg Tryz.prog 25 (qF5 self)):∀f C,(zcd_G self) f=some C→qAg Tryz.prog f C:=qAl ⟨(zcc_okt self hself),zca_ok,zco_ok,zce_ok,hself,tV⟩
def zcd_d1:=(dQS zDRP7 zDRP4)
def zcd_l1 (self:qHl→Option (qHl × Int)):SubQ:=mkL zcd_d1 (fun x=>zcd_p1 self x.1.2.1 x.1.2.2.1 x.1.2.2.2.1 x.2.1.1 x.2.1.2.1 x.2.1.2.2.2.1 x.2.1.2.2.2.2.1 x.2.1.2.2.2.2.2.1 x.2.2.2.1) fun x r R kn kx kr=>kx 0 ⟨[sL 7 (.vI r.1)],[],[.cells 37 [.vS r.2.1,.vI r.2.2.1,.bsl 2,.vI r.2.2.2.1,.vI r.2.2.2.2.1,.vI r.2.2.2.2.2.1],.dead,.bag qAk 44 r.2.2.2.2.2.2]⟩
def zcd_d0:=(dQS zDRP7 zDRP4)
def zcd_l0 (self:qHl→Option (qHl × Int)):SubQ:=mkL zcd_d0 (fun x=>zcd_p0 self x.1.2.1 x.1.2.2.1 x.1.2.2.2.1 x.2.1.1 x.2.1.2.1 x.2.1.2.2.2.1 x.2.1.2.2.2.2.1 x.2.1.2.2.2.2.2.1 x.2.2.2.1) fun x r R kn kx kr=>kr ⟨[sL 6 (.vI r.1)],[],[.cells 37 [.vS r.2.1,.vI r.2.2.1,.bsl 2,.vI r.2.2.2.1,.vI r.2.2.2.2.1,.vI r.2.2.2.2.2.1],.dead,.bag qAk 44 r.2.2.2.2.2.2]⟩
def zcd_L (self:qHl→Option (qHl × Int)):Nat→SubQ:=tblL [(1,zcd_l1 self),(0,zcd_l0 self)]
theorem zcd_sub1 (self:qHl→Option (qHl × Int)):qA0 (zcd_L self) (zcd_G self) 2 9 53 1 zcd_b1:=qAp (show (zcd_L self) 1=(zcd_l1 self) from by kernel_rfl) fun x R kn kx kr=>qAm (step:=fun y=>qDq self x.1.2.1 x.1.2.2.1 y.1 y.2.1 y.2.2.1 y.2.2.2.1 y.2.2.2.2.1 y.2.2.2.2.2.1 y.2.2.2.2.2.2) (enc:=fun (y:Int × BA × Int × Int × Int × Int × qAt)=>zcd_d1.e ((x.1.1,x.1.2.1,x.1.2.2.1,y.1,x.1.2.2.2.2),((y.2.1,y.2.2.1,x.2.1.2.2.1,y.2.2.2.1,y.2.2.2.2.1,y.2.2.2.2.2.1,x.2.1.2.2.2.2.2.2),x.2.2.1,y.2.2.2.2.2.2,x.2.2.2.2))) (fun y=>by kernel_rfl) (fun y ki=>by simp only [qDq,-eq_self,qAc,qAe,obA,obS,slL,slR,qAd]; kernel_rfl) (x.1.2.2.2.1,x.2.1.1,x.2.1.2.1,x.2.1.2.2.2.1,x.2.1.2.2.2.2.1,x.2.1.2.2.2.2.2.1,x.2.2.2.1)
theorem zcd_sub0 (self:qHl→Option (qHl × Int)):qA0 (zcd_L self) (zcd_G self) 2 9 53 0 zcd_b0:=qAp (show (zcd_L self) 0=(zcd_l0 self) from by kernel_rfl) fun x R kn kx kr=>by
 simp only [zcd_p0,-eq_self,qAc,qAe,obA,obS,slL,slR,qAd];kernel_rfl
theorem zcd_subs (self:qHl→Option (qHl × Int)):qBp (zcd_L self) (zcd_G self) 2 9 53 zcd_q:=qBt (show qAu (zcd_L self) (zcd_G self) 2 9 53 [(0,zcd_b0),(1,zcd_b1)] from ⟨(zcd_sub0 self),(zcd_sub1 self),tV⟩)
def zcd_da:=(qAa (dVC (dCO (dH 0 0))) (qAa (dVC (dCO dS)) (qAa (dVC (dCO (dIk .i64 2))) dNil)))
def zcd_db:=(qAa zDRP2 (qAa qB8 dNil))
def zcd_ct (self:qHl→Option (qHl × Int)):CS:=mkC zcd_da zcd_db (fun x y=>zcd_t self (⟨y.1.1,y.1.2.1,y.2.1,y.1.2.2.2.1,y.1.2.2.2.2.1,y.1.2.2.2.2.2.1⟩:qHl) x.2.1 (2:Int)) (fun x y r=>.c (.o (.vI r.2))) fun x y r=>[.cells 37 [.vS r.1.text,.vI r.1.at_,.bsl 2,.vI r.1.open_,.vI r.1.err,.vI r.1.bad],.dead,.bag qAk 44 r.1.out]
theorem zcd_val_t (self:qHl→Option (qHl × Int)) (hself:qAg Tryz.prog 25 (qF5 self)):qAj Tryz.prog 21 (zcd_ct self):=val_okC zcd_chk 9 (zcd_Gok self hself) 2 (fun x=>Nat.le_of_ble_eq_true rfl) (fun y=>rfl) (zcd_subs self) fun x y=>by
 simp only [zcd_t,-eq_self,qAc,qAe,obA,obS,slL,slR,qAd];kernel_rfl
def zcd_wt (self:qHl→Option (qHl × Int)):CQ:=qBh [(0,some 2,some ((.bag qAk),44))] (qBs [true,true] (zcd_ct self))
theorem zcd_okt (self:qHl→Option (qHl × Int)) (hself:qAg Tryz.prog 25 (qF5 self)):qAg Tryz.prog 21 (zcd_wt self):=qAs (zcd_val_t self hself)
def zcj_q:IQ:=(.seq (rg 2 [oP 2 (.mv (vI 0))]) (.seq (rg 2 [oM 3 t0,oP 4 (.call 21 [t3,(.v (.string ⟨#[111,114]⟩)),(vI 2)]),oM 2 t4]) (.cn [2] .ret)))
theorem zcj_chk:chk Tryz.prog 11 []=some (zcj_q.erase,[.tmp 2],5):=by kernel_rfl
def zcj_t (self:qHl→Option (qHl × Int)) (r_:qHl):Option (qHl × Int) :=
 (zcd_t self r_ (⟨#[111,114]⟩:BA) (2:Int)).bind fun r2 =>
 some (r2.1,r2.2)
def zcj_G (self:qHl→Option (qHl × Int)):Nat→Option CQ:=tblQ [(21,(zcd_wt self))]
theorem zcj_Gok (self:qHl→Option (qHl × Int)) (hself:qAg Tryz.prog 25 (qF5 self)):∀f C,(zcj_G self) f=some C→qAg Tryz.prog f C:=qAl ⟨(zcd_okt self hself),tV⟩
def zcj_L (self:qHl→Option (qHl × Int)):Nat→SubQ:=tblL []
theorem zcj_subs (self:qHl→Option (qHl × Int)):qBp (zcj_L self) (zcj_G self) 2 3 5 zcj_q:=qBt (show qAu (zcj_L self) (zcj_G self) 2 3 5 [] from tV)
def zcj_da:=(qAa (dVC (dCO (dH 0 0))) dNil)
def zcj_db:=(qAa zDRP2 (qAa qB8 dNil))
def zcj_ct (self:qHl→Option (qHl × Int)):CS:=mkC zcj_da zcj_db (fun x y=>zcj_t self (⟨y.1.1,y.1.2.1,y.2.1,y.1.2.2.2.1,y.1.2.2.2.2.1,y.1.2.2.2.2.2.1⟩:qHl)) (fun x y r=>.c (.o (.vI r.2))) fun x y r=>[.cells 37 [.vS r.1.text,.vI r.1.at_,.bsl 2,.vI r.1.open_,.vI r.1.err,.vI r.1.bad],.dead,.bag qAk 44 r.1.out]
theorem zcj_val_t (self:qHl→Option (qHl × Int)) (hself:qAg Tryz.prog 25 (qF5 self)):qAj Tryz.prog 11 (zcj_ct self):=val_okC zcj_chk 3 (zcj_Gok self hself) 2 (fun x=>Nat.le_of_ble_eq_true rfl) (fun y=>rfl) (zcj_subs self) fun x y=>by
 simp only [zcj_t,-eq_self,qAc,qAe,obA,obS,slL,slR,qAd];kernel_rfl
def zcj_wt (self:qHl→Option (qHl × Int)):CQ:=qBh [(0,some 2,some ((.bag qAk),44))] (qBs [true,true] (zcj_ct self))
theorem zcj_okt (self:qHl→Option (qHl × Int)) (hself:qAg Tryz.prog 25 (qF5 self)):qAg Tryz.prog 11 (zcj_wt self):=qAs (zcj_val_t self hself)
def zbz_b0:IQ:=(.seq (rg 0 (rF 111 t0 1++[oP 115 (.bi .add t114 (vI 1))]++rS 116 t111 1 t115)) (.seq (rg 0 (rF 118 t0 3++[oP 122 (.bi .sub t121 (vI 1))]++rS 123 t118 3 t122)) (.seq (rg 2 [oM 125 t9,oM 2 t125]) (.canon [(1000000,some 2,.u8,0),(3000001,none,.u8,0)] [2] .ret))))
def zbz_q:IQ:=(.seq (rg 2 [oP 2 (.mv (vI 0))]) (.seq (.seq (rg 14 (rF 10 t0 4++[oP 14 (.bi .neq t13 (vI 0))])) (.cond t14 (.seq (rg 2 [oP 2 (.mv (vI 0))]) (.canon [(1000000,some 2,.u8,0),(3000001,none,.u8,0)] [2] .ret)) .skip)) (.seq (rg 3 [oM 15 t0,oP 16 (.call 12 [t15]),oM 3 t16]) (.seq (.seq (rg 18 [oM 17 t3,oP 18 (.un .not t17)]) (.cond t18 (.seq (rg 24 ([oM 19 t0]++rF 20 t0 1++[oP 24 (.call 13 [t19,(vI 180),t23])])) (.seq (rg 2 [oP 2 (.mv (vI 0))]) (.canon [(1000000,some 2,.u8,0),(3000001,none,.u8,0)] [2] .ret))) .skip)) (.seq (rg 4 [oM 25 t0,oP 26 (.call 26 [t25]),oM 4 t26]) (.seq (.block 0 (.seq (rg 27 [oM 28 t4,oP 29 (.bi .eql t28 (.v (.string ⟨#[110,111,116]⟩))),oM 27 t29]) (.cond t27 (.seq (rg 5 [oM 30 t0,oP 31 (.call 36 [t30,(vI 3)]),oM 5 t31]) (.seq (.seq (rg 33 [oM 32 t5,oP 33 (.un .not t32)]) (.cond t33 (.seq (rg 2 [oP 2 (.mv (vI 0))]) (.canon [(1000000,some 2,.u8,0),(3000001,none,.u8,0)] [2] .ret)) .skip)) (.seq (rg 6 [oM 34 t0,oP 35 (.call 25 [t34]),oM 6 t35]) (.seq (rg 0 (rF 36 t0 3++[oP 40 (.bi .sub t39 (vI 1))]++rS 41 t36 3 t40)) (.seq (rg 2 [oM 43 t0,oM 44 t6,oP 45 (.build [.int .i64 0,.int .i64 0,.int .i64 0,.slice none 0 0,.int .i64 0,.string ⟨#[]⟩] [(0,1,(vI 3)),(1,1,t44),(2,1,(.v (.int .i64 (-1))))]),oP 46 (.call 27 [t43,t45]),oM 2 t46]) (.canon [(1000000,some 2,.u8,0),(3000001,none,.u8,0)] [2] .ret)))))) (.seq (rg 47 [oM 48 t4,oP 49 (.bi .eql t48 (.v (.string ⟨#[104,97,115]⟩))),oM 47 t49]) (.cond t47 (.seq (rg 0 ([oM 50 t0]++rF 51 t0 1++[oP 55 (.bi .add t54 (vI 3))]++rS 56 t50 1 t55)) (.seq (rg 7 [oM 58 t0,oP 59 (.call 37 [t58]),oM 7 t59]) (.seq (rg 2 [oM 60 t0,oM 61 t7,oP 62 (.build [.int .i64 0,.int .i64 0,.int .i64 0,.slice none 0 0,.int .i64 0,.string ⟨#[]⟩] [(0,1,(vI 4)),(1,1,(.v (.int .i64 (-1)))),(2,1,(.v (.int .i64 (-1)))),(3,1,t61)]),oP 63 (.call 27 [t60,t62]),oM 2 t63]) (.canon [(1000000,some 2,.u8,0),(3000001,none,.u8,0)] [2] .ret)))) (.seq (.reg 64 (some [0,1,2,3,4,5,6,7,8,9,10]) (rF 65 t0 0++rF 69 t0 1++[oP 73 (.index t68 t72),oP 74 (.bi .neq t73 (vC 40)),oM 64 t74])) (.cond t64 (.seq (rg 2 [oM 75 t0,oP 76 (.call 38 [t75]),oM 2 t76]) (.canon [(1000000,some 2,.u8,0),(3000001,none,.u8,0)] [2] .ret)) .skip))))))) (.seq (rg 8 [oM 77 t0,oP 78 (.call 36 [t77,(vI 1)]),oM 8 t78]) (.seq (.seq (rg 80 [oM 79 t8,oP 80 (.un .not t79)]) (.cond t80 (.seq (rg 2 [oP 2 (.mv (vI 0))]) (.canon [(1000000,some 2,.u8,0),(3000001,none,.u8,0)] [2] .ret)) .skip)) (.seq (rg 9 [oM 81 t0,oP 82 (.call 11 [t81]),oM 9 t82]) (.seq (.seq (.regT 104 (.one ⟨(some 83),.mv t0,none⟩ (.one ⟨(some 84),.nk t83,none⟩ (.one ⟨(some 85),.faddr 4 t84,none⟩ (.one ⟨(some 86),.load none t85,none⟩ (.one ⟨(some 87),.bi .eql t86 (vI 0),none⟩ (.one ⟨(some 88),.mv t87,none⟩ (.one ⟨(some 89),.mv t0,some (88,true)⟩ (.one ⟨(some 90),.callL 12 [t89],some (88,true)⟩ (.one ⟨(some 91),.un .not t90,some (88,true)⟩ (.one ⟨(some 92),.mv t91,some (88,true)⟩ (.one ⟨(some 93),.mv t0,some (92,false)⟩ (.one ⟨(some 94),.nk t93,some (92,false)⟩ (.one ⟨(some 95),.faddr 0 t94,some (92,false)⟩ (.one ⟨(some 97),.mv t0,some (92,false)⟩ (.one ⟨(some 98),.nk t97,some (92,false)⟩ (.one ⟨(some 99),.faddr 1 t98,some (92,false)⟩ (.alt ⟨(some 96),.load none t95,some (92,false)⟩ (.alt ⟨(some 100),.load none t99,some (92,false)⟩ (.one ⟨(some 101),.index t96 t100,some (92,false)⟩ (.one ⟨(some 102),.bi .neq t101 (vC 41),some (92,false)⟩ (.one ⟨(some 103),.pick t92 vT t102,some (88,true)⟩ (.one ⟨(some 104),.pick t88 t103 vF,none⟩ .fin)))) .stop) (.alt ⟨(some 100),.load none t99,some (92,false)⟩ (.alt ⟨(some 96),.load none t95,some (92,false)⟩ (.one ⟨(some 101),.index t96 t100,some (92,false)⟩ (.one ⟨(some 102),.bi .neq t101 (vC 41),some (92,false)⟩ (.one ⟨(some 103),.pick t92 vT t102,some (88,true)⟩ (.one ⟨(some 104),.pick t88 t103 vF,none⟩ .fin)))) .stop) .stop))))))))))))))))))) (.cond t104 (rg 110 ([oM 105 t0]++rF 106 t0 1++[oP 110 (.call 13 [t105,(vI 180),t109])])) .skip)) (.cn [0,9] (.sub 0 zbz_b0))))))))))))
theorem zbz_chk:chk Tryz.prog 25 [90]=some (zbz_q.erase,[.tmp 2],126):=by kernel_rfl
def qHk (self:qHl→Option (qHl × Int)) (qHp qHt:Int):Option (Int × Int) :=
 gd (qAf (qHp+(1:Int))) <|
 gd (qAf (qHt - (1:Int))) <|
 some ((qHp+(1:Int)),(qHt - (1:Int)))
def zbz_t (self:qHl→Option (qHl × Int)) (r_:qHl):Option (qHl × Int) :=
 bif (!decide (r_.err=(0:Int))) then (
  some (r_,(0:Int)))
 else (
  (zca_s r_).bind fun r9 =>
  bif (!r9.2) then (
   (qF6 r9.1 (180:Int) r9.1.at_).bind fun r10 =>
   some (r10,(0:Int)))
  else (
   (zco_s r9.1).bind fun r11 =>
   bif decide (r11=(⟨#[110,111,116]⟩:BA)) then (
    (zcg_s r9.1 (3:Int)).bind fun r12 =>
    bif (!r12.2) then (
     some (r12.1,(0:Int)))
    else (
     (self r12.1).bind fun r13 =>
     gd (qAf (r13.1.open_ - (1:Int))) <|
     (zce_s {r13.1 with open_:=(r13.1.open_ - (1:Int)):qHl} (⟨(3:Int),r13.2,(-1:Int),[],(0:Int),(⟨#[]⟩:BA)⟩:qHq)).bind fun r14 =>
     some (r14.1,r14.2)))
   else (
    bif decide (r11=(⟨#[104,97,115]⟩:BA)) then (
     gd (qAf (r9.1.at_+(3:Int))) <|
     (zci_s {r9.1 with at_:=(r9.1.at_+(3:Int)):qHl}).bind fun r15 =>
     (zce_s r15.1 (⟨(4:Int),(-1:Int),(-1:Int),r15.2,(0:Int),(⟨#[]⟩:BA)⟩:qHq)).bind fun r16 =>
     some (r16.1,r16.2))
    else (
     gd (0≤r9.1.at_∧r9.1.at_<r9.1.text.size) <|
     bif (!decide ((bAt r9.1.text r9.1.at_)=(40:Int))) then (
      (zcl_s r9.1).bind fun r17 =>
      some (r17.1,r17.2))
     else (
      (zcg_s r9.1 (1:Int)).bind fun r18 =>
      bif (!r18.2) then (
       some (r18.1,(0:Int)))
      else (
       (zcj_t self r18.1).bind fun r19 =>
       bif (decide (r19.1.err=(0:Int))) then (
        (zca_s r19.1).bind fun r20 =>
        gd ((!r20.2)=false→(decide (r19.1.err=(0:Int)))=true→0≤r20.1.at_∧r20.1.at_<r20.1.text.size) <|
        bif ((decide (r19.1.err=(0:Int))) && ((!r20.2) || (!decide ((bAt r20.1.text r20.1.at_)=(41:Int))))) then (
         (qF6 r20.1 (180:Int) r20.1.at_).bind fun r21 =>
         (qHk self r21.at_ r21.open_).bind fun o22 =>
         some ({r21 with at_:=o22.1,open_:=o22.2:qHl},r19.2))
        else (
         (qHk self r20.1.at_ r20.1.open_).bind fun o23 =>
         some ({r20.1 with at_:=o23.1,open_:=o23.2:qHl},r19.2)))
       else (
        gd (true=false→(decide (r19.1.err=(0:Int)))=true→0≤r19.1.at_∧r19.1.at_<r19.1.text.size) <|
        bif ((decide (r19.1.err=(0:Int))) && true) then (
         (qF6 r19.1 (180:Int) r19.1.at_).bind fun r27 =>
         (qHk self r27.at_ r27.open_).bind fun o28 =>
         some ({r27 with at_:=o28.1,open_:=o28.2:qHl},r19.2))
        else (
         (qHk self r19.1.at_ r19.1.open_).bind fun o29 =>
         some ({r19.1 with at_:=o29.1,open_:=o29.2:qHl},r19.2)))))))))
def zbz_G (self:qHl→Option (qHl × Int)):Nat→Option CQ:=tblQ [(12,zca_w),(13,zcb_w),(26,zco_w),(36,zcg_w),(25,qF5 self),(27,zce_w),(37,zci_w),(38,zcl_w),(11,zcj_wt self)]
theorem zbz_Gok (self:qHl→Option (qHl × Int)) (hself:qAg Tryz.prog 25 (qF5 self)):∀f C,(zbz_G self) f=some C→qAg Tryz.prog f C:=qAl ⟨zca_ok,zcb_ok,zco_ok,zcg_ok,hself,zce_ok,zci_ok,zcl_ok,zcj_okt self hself,tV⟩
def zbz_d0:=(dQS (qAa (dSO 0 (dH 0 0)) (qAa (dSO 9 dZ) dNil)) zDRP4)
def zbz_l0 (self:qHl→Option (qHl × Int)):SubQ:=mkL zbz_d0 (fun x=>qHk self x.2.1.2.1 x.2.1.2.2.2.1) fun x r R kn kx kr=>kr ⟨[sL 2 (.vI x.1.2.1)],[],[.cells 37 [.vS x.2.1.1,.vI r.1,.bsl 2,.vI r.2,.vI x.2.1.2.2.2.2.1,.vI x.2.1.2.2.2.2.2.1],.dead,.bag qAk 44 x.2.2.2.1]⟩
def zbz_L (self:qHl→Option (qHl × Int)):Nat→SubQ:=tblL [(0,zbz_l0 self)]
theorem zbz_sub0 (self:qHl→Option (qHl × Int)):qA0 (zbz_L self) (zbz_G self) 2 10 126 0 zbz_b0:=qAp (show (zbz_L self) 0=(zbz_l0 self) from by kernel_rfl) fun x R kn kx kr=>by
 simp only [qHk,-eq_self,qAc,qAe,obA,obS,slL,slR,qAd];kernel_rfl
theorem zbz_subs (self:qHl→Option (qHl × Int)):qBp (zbz_L self) (zbz_G self) 2 10 126 zbz_q:=qBt (show qAu (zbz_L self) (zbz_G self) 2 10 126 [(0,zbz_b0)] from ⟨(zbz_sub0 self),tV⟩)
theorem zbz_eq (self:qHl→Option (qHl × Int)) (r_:qHl) (R:Type) (k:SV→List SB→Option R) :
  Le ((zbz_t self r_).bind fun r=>k (.c (.o (.vI r.2))) [.cells 37 [.vS r.1.text,.vI r.1.at_,.bsl 2,.vI r.1.open_,.vI r.1.err,.vI r.1.bad],.dead,.bag qAk 44 r.1.out]) (fnQ (zbz_L self) (zbz_G self) 10 126 zbz_q [.tmp 2] [.c (.o (.hd 0 0))] [.cells 37 [.vS r_.text,.vI r_.at_,.bsl 1,.vI r_.open_,.vI r_.err,.vI r_.bad],.bag qAk 44 r_.out] k):=by
 have h:∀K:(qHl × Int)→Option R,Le ((zbz_t self r_).bind K) (
  bif (!decide (r_.err=(0:Int))) then (
   (K) (r_,(0:Int)))
  else (
   (zca_s r_).bind fun r9 =>
   bif (!r9.2) then (
    (qF6 r9.1 (180:Int) r9.1.at_).bind fun r10 =>
    (K) (r10,(0:Int)))
   else (
    (zco_s r9.1).bind fun r11 =>
    bif decide (r11=(⟨#[110,111,116]⟩:BA)) then (
     (zcg_s r9.1 (3:Int)).bind fun r12 =>
     bif (!r12.2) then (
      (K) (r12.1,(0:Int)))
     else (
      (self r12.1).bind fun r13 =>
      gd (qAf (r13.1.open_ - (1:Int))) <|
      (zce_s {r13.1 with open_:=(r13.1.open_ - (1:Int)):qHl} (⟨(3:Int),r13.2,(-1:Int),[],(0:Int),(⟨#[]⟩:BA)⟩:qHq)).bind fun r14 =>
      (K) (r14.1,r14.2)))
    else (
     bif decide (r11=(⟨#[104,97,115]⟩:BA)) then (
      gd (qAf (r9.1.at_+(3:Int))) <|
      (zci_s {r9.1 with at_:=(r9.1.at_+(3:Int)):qHl}).bind fun r15 =>
      (zce_s r15.1 (⟨(4:Int),(-1:Int),(-1:Int),r15.2,(0:Int),(⟨#[]⟩:BA)⟩:qHq)).bind fun r16 =>
      (K) (r16.1,r16.2))
     else (
      gd (0≤r9.1.at_∧r9.1.at_<r9.1.text.size) <|
      bif (!decide ((bAt r9.1.text r9.1.at_)=(40:Int))) then (
       (zcl_s r9.1).bind fun r17 =>
       (K) (r17.1,r17.2))
      else (
       (zcg_s r9.1 (1:Int)).bind fun r18 =>
       bif (!r18.2) then (
        (K) (r18.1,(0:Int)))
       else (
        (zcj_t self r18.1).bind fun r19 =>
        bif (decide (r19.1.err=(0:Int))) then (
         (zca_s r19.1).bind fun r20 =>
         all2d (
          gd ((!r20.2)=false→(decide (r19.1.err=(0:Int)))=true→0≤r20.1.at_∧r20.1.at_<r20.1.text.size) <|
          bif ((decide (r19.1.err=(0:Int))) && ((!r20.2) || (!decide ((bAt r20.1.text r20.1.at_)=(41:Int))))) then (
           (qF6 r20.1 (180:Int) r20.1.at_).bind fun r21 =>
           (qHk self r21.at_ r21.open_).bind fun o22 =>
           (K) ({r21 with at_:=o22.1,open_:=o22.2:qHl},r19.2))
          else (
           (qHk self r20.1.at_ r20.1.open_).bind fun o23 =>
           (K) ({r20.1 with at_:=o23.1,open_:=o23.2:qHl},r19.2))))
        else (
         all2d (
          gd (true=false→(decide (r19.1.err=(0:Int)))=true→0≤r19.1.at_∧r19.1.at_<r19.1.text.size) <|
          bif ((decide (r19.1.err=(0:Int))) && true) then (
           (qF6 r19.1 (180:Int) r19.1.at_).bind fun r27 =>
           (qHk self r27.at_ r27.open_).bind fun o28 =>
           (K) ({r27 with at_:=o28.1,open_:=o28.2:qHl},r19.2))
          else (
           (qHk self r19.1.at_ r19.1.open_).bind fun o29 =>
           (K) ({r19.1 with at_:=o29.1,open_:=o29.2:qHl},r19.2))))))))))):=fun K=>by
  unfold zbz_t;repeat' (first | exact Le.refl _ | refine Le.gdb ?_ | refine Le.condb ?_ ?_ | refine Le.all2d ?_ | refine Le.all2b ?_ ?_ | refine Le.bindb (fun _=>?_) | refine Le.elimb (fun _=>?_) (fun _=>?_))
 exact (h _).trans (Le.of_eq (by kernel_rfl))
theorem zbz_val_t (self:qHl→Option (qHl × Int)) (hself:qAg Tryz.prog 25 (qF5 self)):qAj Tryz.prog 25 (zbz_cs (zbz_t self)) :=
 val_le zbz_chk 10 (zbz_Gok self hself) zbz_da zbz_db 2 (fun x y R k=>(zbz_t self (⟨y.1.1,y.1.2.1,y.2.1,y.1.2.2.2.1,y.1.2.2.2.2.1,y.1.2.2.2.2.2.1⟩:qHl)).bind fun r=>k (.c (.o (.vI r.2))) [.cells 37 [.vS r.1.text,.vI r.1.at_,.bsl 2,.vI r.1.open_,.vI r.1.err,.vI r.1.bad],.dead,.bag qAk 44 r.1.out]) (by kernel_rfl)
  (fun x y R k=>by simp only [Option.bind_assoc,obS]) (fun x=>Nat.le_of_ble_eq_true rfl) (fun y=>rfl) (zbz_subs self) fun x y=>zbz_eq self (⟨y.1.1,y.1.2.1,y.2.1,y.1.2.2.2.1,y.1.2.2.2.2.1,y.1.2.2.2.2.2.1⟩:qHl) (SV × List SB) (fun v hp'=>some (v,hp'))
def zbz_n:Nat→qHl→Option (qHl × Int)
 | 0=>fun _=>none
 | n+1=>zbz_t (zbz_n n)
def zbz_s (r_:qHl):Option (qHl × Int):=evt fun n=>zbz_n n r_
theorem zbz_valn:∀n,qAj Tryz.prog 25 (zbz_cs (zbz_n n))
 | 0=>qAj.zero fun args hp R k=>by
  show ((Dec.d zbz_da args).bind fun x=>(Dec.d zbz_db hp).bind fun y=>none)=none;cases Dec.d zbz_da args with
  | none=>rfl
  | some x=>cases Dec.d zbz_db hp <;> rfl
 | n+1=>zbz_val_t (zbz_n n) (qAs (zbz_valn n))
theorem zbz_val:qAj Tryz.prog 25 (zbz_cs zbz_s):=qAj.evt zbz_valn (fun args hp R k=>by
  show ((Dec.d zbz_da args).bind fun x=>(Dec.d zbz_db hp).bind fun y=>_)=(((Dec.d zbz_da args).bind fun x=>(Dec.d zbz_db hp).bind fun y=>_):Option (SV × List SB)).bind _;cases Dec.d zbz_da args with
  | none=>rfl
  | some x =>
   cases Dec.d zbz_db hp with
   | none=>rfl
   | some y=>simp only [obS,Option.bind_assoc]) fun args hp v hp' h=>by
  obtain ⟨x,h1,h2⟩:=Option.bind_eq_some_iff.1 h;obtain ⟨y,h3,h4⟩:=Option.bind_eq_some_iff.1 h2;obtain ⟨r,h5,h6⟩:=Option.bind_eq_some_iff.1 h4;obtain ⟨n,h7⟩:=evt_some h5;refine ⟨n,?_⟩;show ((Dec.d zbz_da args).bind fun x=>(Dec.d zbz_db hp).bind fun y=>_)=_;rw [h1];simp only [obS];rw [h3];simp only [obS];exact (congrArg (fun z=>Option.bind z _) h7).trans h6
def zbz_w:CQ:=qF5 zbz_s
theorem zbz_ok:qAg Tryz.prog 25 zbz_w:=qAs zbz_val
def zcj_s (r_:qHl):Option (qHl × Int):=zcj_t zbz_s r_
def zcj_w:CQ:=zcj_wt zbz_s
theorem zcj_ok:qAg Tryz.prog 11 zcj_w:=zcj_okt zbz_s zbz_ok
def zbx_b0:IQ:=(.seq (.seq (rg 33 (rF 29 t5 4++[oP 33 (.bi .neq t32 (vI 0))])) (.cond t33 (.seq (.reg 4 (some [0,1,2,3,4,5,6,7,8,9,10]) (rF 34 t5 4++rF 38 t5 5++[oP 2 (.mv (.v (.slice none 0 0))),oM 3 t37,oM 4 t41])) (.canon [(2,none,(.bag qAk),44)] [2,3,4] .ret)) .skip)) (.seq (rg 4 (rF 42 t5 2++[oM 2 t45,oP 3 (.mv (vI 0)),oP 4 (.mv (vI 0))])) (.canon [(2,none,(.bag qAk),44)] [2,3,4] .ret)))
def zbx_q:IQ:=(.seq (rg 4 [oP 2 (.mv (.v (.slice none 0 0))),oP 3 (.mv (vI 0)),oP 4 (.mv (vI 0))]) (.seq (.seq (rg 8 [oM 6 t0,oP 7 (.lenS t6),oP 8 (.bi .gtr t7 (vI 1024))]) (.cond t8 (.seq (rg 4 [oP 2 (.mv (.v (.slice none 0 0))),oP 3 (.mv (vI 10)),oP 4 (.mv (vI 0))]) (.canon [(2,none,(.bag qAk),44)] [2,3,4] .ret)) .skip)) (.seq (rg 5 [oM 9 t0,oP 10 (.build [.string ⟨#[]⟩,.int .i64 0,.slice none 0 0,.int .i64 0,.int .i64 0,.int .i64 0] [(0,1,t9)]),oP 11 (.box 37 6 t10),oM 5 t11]) (.seq (rg 13 [oM 12 t5,oP 13 (.call 11 [t12])]) (.seq (.seq (rg 22 (rF 14 t5 4++[oP 18 (.bi .eql t17 (vI 0)),oM 19 t18,oF 20 (.mv t5) 19,oF 21 (.call 12 [t20]) 19,oP 22 (.pick t19 t21 vF)])) (.cond t22 (rg 28 ([oM 23 t5]++rF 24 t5 1++[oP 28 (.call 13 [t23,(vI 180),t27])])) .skip)) (.cn [5] (.sub 0 zbx_b0)))))))
def zbx_p0 (qHr qHy:Int) (qHz:qAt):Option (Int × Int × qAt) :=
 bif (!decide (qHr=(0:Int))) then (
  some (qHr,qHy,[]))
 else (
  some ((0:Int),(0:Int),qHz))
def zbx_s (text:BA):Option (qAt × Int × Int) :=
 bif decide ((1024:Int)<(text.size:Int)) then (
  some ([],(10:Int),(0:Int)))
 else (
  (zcj_s (⟨text,(0:Int),[],(0:Int),(0:Int),(0:Int)⟩:qHl)).bind fun r7 =>
  bif decide (r7.1.err=(0:Int)) then (
   (zca_s r7.1).bind fun r8 =>
   bif r8.2 then (
    (qF6 r8.1 (180:Int) r8.1.at_).bind fun r9 =>
    (zbx_p0 r9.err r9.bad r9.out).bind fun o10 =>
    some (o10.2.2,o10.1,o10.2.1))
   else (
    (zbx_p0 r8.1.err r8.1.bad r8.1.out).bind fun o11 =>
    some (o11.2.2,o11.1,o11.2.1)))
  else (
   (zbx_p0 r7.1.err r7.1.bad r7.1.out).bind fun o12 =>
   some (o12.2.2,o12.1,o12.2.1)))
def zbx_G:Nat→Option CQ:=tblQ [(11,zcj_w),(12,zca_w),(13,zcb_w)]
def zbx_d0:=(dQS (qAa (dSO 5 (dH 0 0)) dNil) zDRP8)
def zbx_l0:SubQ:=mkL zbx_d0 (fun x=>zbx_p0 x.2.1.2.2.2.2.1 x.2.1.2.2.2.2.2.1 x.2.2.1) fun x r R kn kx kr=>kr ⟨[sL 2 (.bsl 0),sL 3 (.vI r.1),sL 4 (.vI r.2.1)],[],[.bag qAk 44 r.2.2]⟩
def zbx_L:Nat→SubQ:=tblL [(0,zbx_l0)]
theorem zbx_sub0:qA0 zbx_L zbx_G 0 6 46 0 zbx_b0:=qAp (show zbx_L 0=zbx_l0 from by kernel_rfl) fun x R kn kx kr=>by
 simp only [zbx_p0,-eq_self,qAc,qAe,obA,obS,slL,slR,qAd];kernel_rfl
def zbx_c:CS:=mkC (qAa (dVC (dCO dS)) dNil) dNil (fun x y=>zbx_s x.1) (fun x y r=>.tup [.o (.bsl 0),.o (.vI r.2.1),.o (.vI r.2.2)]) fun x y r=>[.bag qAk 44 r.1]
theorem zbx_val:qAj Tryz.prog 5 zbx_c:=vl1 zbx_q [.tmp 2,.tmp 3,.tmp 4] 46 6 0 (show qAu zbx_L zbx_G 0 6 46 [(0,zbx_b0)] from ⟨zbx_sub0,tV⟩) (qAl ⟨zcj_ok,zca_ok,zcb_ok,tV⟩) fun x y=>by
 simp only [zbx_s,-eq_self,qAc,qAe,obA,obS,slL,slR,qAd];kernel_rfl
def zbx_w:CQ:=qBs [] zbx_c
theorem zbx_ok:qAg Tryz.prog 5 zbx_w:=qB3 zbx_val
def zbv_b0:IQ:=(.loop [0,1,5] (.seq (.seq (rg 14 [oM 11 t5,oM 12 t0,oP 13 (.len t12),oP 14 (.bi .lss t11 t13)]) (.cond t14 .skip (.cn [] (.exit 0)))) (.seq (.block 1 (.seq (.reg 25 (some [0,1,2,3,4,5,6,7,8]) [oM 17 t0,oM 18 t5,oP 19 (.iaddr 1 t17 t18),oP 20 (.load none t19),oM 21 t1,oM 22 t5,oP 23 (.iaddr 1 t21 t22),oP 24 (.load none t23),oP 25 (.bi .neq t20 t24)]) (.cond t25 (.seq (rg 4 [oP 4 (.mv vF)]) (.cn [4] .ret)) .skip))) (rg 5 [oM 15 t5,oP 16 (.bi .add t15 (vI 1)),oM 5 t16]))))
def zbv_q:IQ:=(.seq (rg 4 [oP 4 (.mv vF)]) (.seq (.seq (rg 10 [oM 6 t0,oP 7 (.len t6),oM 8 t1,oP 9 (.len t8),oP 10 (.bi .neq t7 t9)]) (.cond t10 (.seq (rg 4 [oP 4 (.mv vF)]) (.cn [4] .ret)) .skip)) (.seq (.seq (rg 5 [oP 5 (.mv (vI 0))]) (.block 0 (.cn [0,1,5] (.sub 0 zbv_b0)))) (.seq (rg 4 [oP 4 (.mv vT)]) (.cn [4] .ret)))))
def qEk (i:Int) (a b:List BA):Option (Int ⊕ (Bool ⊕ Unit)) :=
 bif decide (i<(a.length:Int)) then (
  gd (0≤i∧i<a.length) <|
  gd ((Int.toNat i)<a.length) <|
  gd (0≤i∧i<b.length) <|
  gd ((Int.toNat i)<b.length) <|
  bif (!decide ((a.getD (Int.toNat i) (ET.dft .str))=(b.getD (Int.toNat i) (ET.dft .str)))) then (
   some (.inr (.inl false)))
  else (
   gd (qAf (i+(1:Int))) <|
   some (.inl (i+(1:Int)))))
 else (
  some (.inr (.inr ())))
def zbv_p0 (i:Int) (a b:List BA):Option (Bool ⊕ Unit) :=
 qAw (fun x:Int=>qEk x a b) i
def zbv_s (a b:(List BA)):Option Bool :=
 bif (!decide ((a.length:Int)=(b.length:Int))) then (
  some false)
 else (
  (zbv_p0 (0:Int) a b).bind fun o1=>(Sum.elim (fun (o1_0:Bool) =>
   some o1_0) (fun (o1_1:Unit) =>
   some true)) o1)
def zbv_G:Nat→Option CQ:=tblQ []
def zbv_d0:=(dQS (qAa (dSO 0 (dO 0)) (qAa (dSO 1 (dO 1)) (qAa (dSO 5 dZ) dNil))) (qAa (dView .str) (qAa (dView .str) dNil)))
def zbv_l0:SubQ:=mkL zbv_d0 (fun x=>zbv_p0 x.1.2.2.1 x.2.1 x.2.2.1) fun x r R kn kx kr=>(Sum.elim (fun (r_0:Bool)=>kr ⟨[sL 4 (.vB r_0)],[],[.view .str x.2.1,.view .str x.2.2.1]⟩) (fun (r_1:Unit)=>kx 0 ⟨[],[],[.view .str x.2.1,.view .str x.2.2.1]⟩)) r
def zbv_L:Nat→SubQ:=tblL [(0,zbv_l0)]
theorem zbv_sub0:qA0 zbv_L zbv_G 2 6 26 0 zbv_b0:=qAp (show zbv_L 0=zbv_l0 from by kernel_rfl) fun x R kn kx kr=>qAm (step:=fun y=>qEk y x.2.1 x.2.2.1) (enc:=fun (y:Int)=>zbv_d0.e ((x.1.1,x.1.2.1,y,x.1.2.2.2),x.2)) (fun y=>by kernel_rfl) (fun y ki=>by simp only [qEk,-eq_self,qAc,qAe,obA,obS,slL,slR,qAd]; kernel_rfl) x.1.2.2.1
def zbv_c:CS:=mkC (qAa (dVC (dCO (dO 0))) (qAa (dVC (dCO (dO 1))) dNil)) (qAa (dView .str) (qAa (dView .str) dNil)) (fun x y=>zbv_s y.1 y.2.1) (fun x y r=>.c (.o (.vB r))) fun x y r=>[.view .str y.1,.view .str y.2.1]
theorem zbv_val:qAj Tryz.prog 14 zbv_c:=vl1 zbv_q [.tmp 4] 26 6 2 (show qAu zbv_L zbv_G 2 6 26 [(0,zbv_b0)] from ⟨zbv_sub0,tV⟩) (fun f C h=>by cases h) fun x y=>by
 simp only [zbv_s,-eq_self,qAc,qAe,obA,obS,slL,slR,qAd];kernel_rfl
def zbv_w:CQ:=nestQ (qBh [(0,none,some (.str,9)),(1,none,some (.str,9))] (qCl [false,false] zbv_c))
theorem zbv_ok:qAg Tryz.prog 14 zbv_w:=(fun h=>nestQ_valid (prep_nat (liftH_nat h.1)) (prep_quiet h)) zbv_val
def zbu_b0:IQ:=(.loop [0,1,5] (.seq (.seq (rg 14 [oM 11 t5,oM 12 t0,oP 13 (.len t12),oP 14 (.bi .lss t11 t13)]) (.cond t14 .skip (.cn [] (.exit 0)))) (.seq (.block 1 (.seq (.reg 93 (some [0,1,2,3,4,5,6,7,8,9,10,11,12,13,14,15,16,17,18,19,20,21,22,23,24,25,26,27,28,29,30,31,32,33,34,35,36,37,38,39,40,41,42,43,44,45,46,47,48,49,50,51,52,53,54,55,56,57,58,59,60,61,62,63,64,65,66,67,68,69,70,71,72,73,74,75,76]) [oM 17 t0,oM 18 t5,oP 19 (.iaddr 6 t17 t18),oP 20 (.faddr 0 t19),oP 21 (.load none t20),oM 22 t1,oM 23 t5,oP 24 (.iaddr 6 t22 t23),oP 25 (.faddr 0 t24),oP 26 (.load none t25),oP 27 (.bi .neq t21 t26),oM 28 t27,oE 29 (.mv t0) 28,oE 30 (.mv t5) 28,oE 31 (.iaddr 6 t29 t30) 28,oE 32 (.faddr 1 t31) 28,oE 33 (.load none t32) 28,oE 34 (.mv t1) 28,oE 35 (.mv t5) 28,oE 36 (.iaddr 6 t34 t35) 28,oE 37 (.faddr 1 t36) 28,oE 38 (.load none t37) 28,oE 39 (.bi .neq t33 t38) 28,oP 40 (.pick t28 vT t39),oM 41 t40,oE 42 (.mv t0) 41,oE 43 (.mv t5) 41,oE 44 (.iaddr 6 t42 t43) 41,oE 45 (.faddr 2 t44) 41,oE 46 (.load none t45) 41,oE 47 (.mv t1) 41,oE 48 (.mv t5) 41,oE 49 (.iaddr 6 t47 t48) 41,oE 50 (.faddr 2 t49) 41,oE 51 (.load none t50) 41,oE 52 (.bi .neq t46 t51) 41,oP 53 (.pick t41 vT t52),oM 54 t53,oE 55 (.mv t0) 54,oE 56 (.mv t5) 54,oE 57 (.iaddr 6 t55 t56) 54,oE 58 (.faddr 4 t57) 54,oE 59 (.load none t58) 54,oE 60 (.mv t1) 54,oE 61 (.mv t5) 54,oE 62 (.iaddr 6 t60 t61) 54,oE 63 (.faddr 4 t62) 54,oE 64 (.load none t63) 54,oE 65 (.bi .neq t59 t64) 54,oP 66 (.pick t54 vT t65),oM 67 t66,oE 68 (.mv t0) 67,oE 69 (.mv t5) 67,oE 70 (.iaddr 6 t68 t69) 67,oE 71 (.faddr 5 t70) 67,oE 72 (.load none t71) 67,oE 73 (.mv t1) 67,oE 74 (.mv t5) 67,oE 75 (.iaddr 6 t73 t74) 67,oE 76 (.faddr 5 t75) 67,oE 77 (.load none t76) 67,oE 78 (.bi .neq t72 t77) 67,oP 79 (.pick t67 vT t78),oM 80 t79,oE 81 (.mv t0) 80,oE 82 (.mv t5) 80,oE 83 (.iaddr 6 t81 t82) 80,oE 84 (.faddr 3 t83) 80,oE 85 (.load none t84) 80,oE 86 (.mv t1) 80,oE 87 (.mv t5) 80,oE 88 (.iaddr 6 t86 t87) 80,oE 89 (.faddr 3 t88) 80,oE 90 (.load none t89) 80,oE 91 (.call 14 [t85,t90]) 80,oE 92 (.un .not t91) 80,oP 93 (.pick t80 vT t92)]) (.cond t93 (.seq (rg 4 [oP 4 (.mv vF)]) (.cn [4] .ret)) .skip))) (rg 5 [oM 15 t5,oP 16 (.bi .add t15 (vI 1)),oM 5 t16]))))
def zbu_q:IQ:=(.seq (rg 4 [oP 4 (.mv vF)]) (.seq (.seq (rg 10 [oM 6 t0,oP 7 (.len t6),oM 8 t1,oP 9 (.len t8),oP 10 (.bi .neq t7 t9)]) (.cond t10 (.seq (rg 4 [oP 4 (.mv vF)]) (.cn [4] .ret)) .skip)) (.seq (.seq (rg 5 [oP 5 (.mv (vI 0))]) (.block 0 (.cn [0,1,5] (.sub 0 zbu_b0)))) (.seq (rg 4 [oP 4 (.mv vT)]) (.cn [4] .ret)))))
def qBq (i:Int) (a b:qAt) :=
 (((!decide (((a.getD (Int.toNat i) (NT.dft qAk)).1)=((b.getD (Int.toNat i) (NT.dft qAk)).1))) || (!decide (((a.getD (Int.toNat i) (NT.dft qAk)).2.1)=((b.getD (Int.toNat i) (NT.dft qAk)).2.1)))) || (!decide (((a.getD (Int.toNat i) (NT.dft qAk)).2.2.1)=((b.getD (Int.toNat i) (NT.dft qAk)).2.2.1))))
def qB2 (i:Int) (a b:qAt) :=
 (((qBq i a b) || (!decide (((a.getD (Int.toNat i) (NT.dft qAk)).2.2.2.2.1)=((b.getD (Int.toNat i) (NT.dft qAk)).2.2.2.2.1)))) || (!decide (((a.getD (Int.toNat i) (NT.dft qAk)).2.2.2.2.2.1)=((b.getD (Int.toNat i) (NT.dft qAk)).2.2.2.2.2.1))))
def qCe (i:Int) (a b:qAt) :=
 ((!decide (((a.getD (Int.toNat i) (NT.dft qAk)).1)=((b.getD (Int.toNat i) (NT.dft qAk)).1))) || (!decide (((a.getD (Int.toNat i) (NT.dft qAk)).2.1)=((b.getD (Int.toNat i) (NT.dft qAk)).2.1))))
def qCf (i:Int) (a b:qAt) :=
 ((qBq i a b) || (!decide (((a.getD (Int.toNat i) (NT.dft qAk)).2.2.2.2.1)=((b.getD (Int.toNat i) (NT.dft qAk)).2.2.2.2.1))))
def qCg (i:Int) (a b:qAt) :=
 (!decide (((a.getD (Int.toNat i) (NT.dft qAk)).1)=((b.getD (Int.toNat i) (NT.dft qAk)).1)))
def qEj (i:Int) (a b:qAt):Option (Int ⊕ (Bool ⊕ Unit)) :=
 bif decide (i<(a.length:Int)) then (
  gd (0≤i∧i<a.length) <|
  gd ((Int.toNat i)<a.length) <|
  gd ((Int.toNat i)<a.length) <|
  gd (0≤i∧i<b.length) <|
  gd ((Int.toNat i)<b.length) <|
  gd ((Int.toNat i)<b.length) <|
  gd ((qCg i a b)=false→0≤i∧i<a.length) <|
  gd ((qCg i a b)=false→(Int.toNat i)<a.length) <|
  gd ((qCg i a b)=false→(Int.toNat i)<a.length) <|
  gd ((qCg i a b)=false→0≤i∧i<b.length) <|
  gd ((qCg i a b)=false→(Int.toNat i)<b.length) <|
  gd ((qCg i a b)=false→(Int.toNat i)<b.length) <|
  gd ((qCe i a b)=false→0≤i∧i<a.length) <|
  gd ((qCe i a b)=false→(Int.toNat i)<a.length) <|
  gd ((qCe i a b)=false→(Int.toNat i)<a.length) <|
  gd ((qCe i a b)=false→0≤i∧i<b.length) <|
  gd ((qCe i a b)=false→(Int.toNat i)<b.length) <|
  gd ((qCe i a b)=false→(Int.toNat i)<b.length) <|
  gd ((qBq i a b)=false→0≤i∧i<a.length) <|
  gd ((qBq i a b)=false→(Int.toNat i)<a.length) <|
  gd ((qBq i a b)=false→(Int.toNat i)<a.length) <|
  gd ((qBq i a b)=false→0≤i∧i<b.length) <|
  gd ((qBq i a b)=false→(Int.toNat i)<b.length) <|
  gd ((qBq i a b)=false→(Int.toNat i)<b.length) <|
  gd ((qCf i a b)=false→0≤i∧i<a.length) <|
  gd ((qCf i a b)=false→(Int.toNat i)<a.length) <|
  gd ((qCf i a b)=false→(Int.toNat i)<a.length) <|
  gd ((qCf i a b)=false→0≤i∧i<b.length) <|
  gd ((qCf i a b)=false→(Int.toNat i)<b.length) <|
  gd ((qCf i a b)=false→(Int.toNat i)<b.length) <|
  gd ((qB2 i a b)=false→0≤i∧i<a.length) <|
  gd ((qB2 i a b)=false→(Int.toNat i)<a.length) <|
  gd ((qB2 i a b)=false→(Int.toNat i)<a.length) <|
  gd ((qB2 i a b)=false→0≤i∧i<b.length) <|
  gd ((qB2 i a b)=false→(Int.toNat i)<b.length) <|
  gd ((qB2 i a b)=false→(Int.toNat i)<b.length) <|
  gd ((Int.toNat i)<a.length) <|
  gd ((Int.toNat i)<b.length) <|
  gd ((Int.toNat i)<a.length) <|
  gd ((Int.toNat i)<b.length) <|
  (zbv_s ((a.getD (Int.toNat i) (NT.dft qAk)).2.2.2.1) ((b.getD (Int.toNat i) (NT.dft qAk)).2.2.2.1)).bind fun r2 =>
  bif ((qB2 i a b) || (!r2)) then (
   some (.inr (.inl false)))
  else (
   gd (qAf (i+(1:Int))) <|
   some (.inl (i+(1:Int)))))
 else (
  some (.inr (.inr ())))
def zbu_p0 (i:Int) (a b:qAt):Option (Bool ⊕ Unit) :=
 qAw (fun x:Int=>qEj x a b) i
def zbu_s (a b:qAt):Option Bool :=
 bif (!decide ((a.length:Int)=(b.length:Int))) then (
  some false)
 else (
  (zbu_p0 (0:Int) a b).bind fun o3=>(Sum.elim (fun (o3_0:Bool) =>
   some o3_0) (fun (o3_1:Unit) =>
   some true)) o3)
def zbu_G:Nat→Option CQ:=tblQ [(14,zbv_w)]
def zbu_d0:=(dQS (qAa (dSO 0 (dBsl 0)) (qAa (dSO 1 (dBsl 1)) (qAa (dSO 5 dZ) dNil))) (qAa qB8 (qAa qB8 dNil)))
def zbu_l0:SubQ:=mkL zbu_d0 (fun x=>zbu_p0 x.1.2.2.1 x.2.1 x.2.2.1) fun x r R kn kx kr=>(Sum.elim (fun (r_0:Bool)=>kr ⟨[sL 4 (.vB r_0)],[],[.bag qAk 44 x.2.1,.bag qAk 44 x.2.2.1]⟩) (fun (r_1:Unit)=>kx 0 ⟨[],[],[.bag qAk 44 x.2.1,.bag qAk 44 x.2.2.1]⟩)) r
def zbu_L:Nat→SubQ:=tblL [(0,zbu_l0)]
theorem zbu_sub0:qA0 zbu_L zbu_G 2 6 94 0 zbu_b0:=qAp (show zbu_L 0=zbu_l0 from by kernel_rfl) fun x R kn kx kr=>qAm (step:=fun y=>qEj y x.2.1 x.2.2.1) (enc:=fun (y:Int)=>zbu_d0.e ((x.1.1,x.1.2.1,y,x.1.2.2.2),x.2)) (fun y=>by kernel_rfl) (fun y ki=>by simp only [qEj,-eq_self,qAc,qAe,obA,obS,slL,slR,qAd]; kernel_rfl) x.1.2.2.1
def zbu_c:CS:=mkC (qAa (dVC (dCO (dBsl 0))) (qAa (dVC (dCO (dBsl 1))) dNil)) (qAa qB8 (qAa qB8 dNil)) (fun x y=>zbu_s y.1 y.2.1) (fun x y r=>.c (.o (.vB r))) fun x y r=>[.bag qAk 44 y.1,.bag qAk 44 y.2.1]
theorem zbu_val:qAj Tryz.prog 6 zbu_c:=vl1 zbu_q [.tmp 4] 94 6 2 (show qAu zbu_L zbu_G 2 6 94 [(0,zbu_b0)] from ⟨zbu_sub0,tV⟩) (qAl ⟨zbv_ok,tV⟩) fun x y=>by
 simp only [zbu_s,-eq_self,qAc,qAe,obA,obS,slL,slR,qAd];kernel_rfl
def zbu_w:CQ:=qBh [(0,none,some ((.bag qAk),44)),(1,none,some ((.bag qAk),44))] (qBs [true,true] zbu_c)
theorem zbu_ok:qAg Tryz.prog 6 zbu_w:=qAs zbu_val
end
end Go.Proofs.YtpobbbpphnnnhaaGreatDoor
