/-
  Functions as the engine reads them (printed by gen.py).
-/
import Derived.Test.YticplgndjpljiaaDoorEngO
import Derived.Test.YticplgndjpljiaaDoorProg
import Derived.Test.YticplgndjpljiaaDoorPShape
import Derived.Test.YticplgndjpljiaaDoorGC
import Derived.Test.YticplgndjpljiaaDoorJR
import Derived.Test.YticplgndjpljiaaDoorJP
import Derived.Test.YticplgndjpljiaaDoorPLexQ
namespace Go.Proofs.YticplgndjpljiaaDoor
open Go.Eng
set_option linter.unusedVariables false
set_option linter.unusedSimpArgs false
set_option maxRecDepth 100000
noncomputable section
structure qGs where
 has:Bool
 at_:Int
structure qGn where
 value:(List Eng.Node)
 iss:BA
 hasIss:Bool
 sub:BA
 hasSub:Bool
 aud:(List BA)
 hasAud:Bool
 jti:BA
 hasJti:Bool
 exp_:qGs
 nbf:qGs
 iat:qGs
def zae_b0:IQ:=(.loop [0,1,28,29,30] (.join [(1000000,some 5,.u8,0)] [0,1,28,29,30] (.seq (rg 31 [oP 31 (.bi .lss t30 t29)]) (.seq (.cond t31 .skip (.cn [0] (.exit 4))) (.seq (.block 5 (.seq (rg 8 [oP 32 (.iaddr 1 t28 t30),oP 33 (.load none t32),oM 8 t33]) (.seq (.seq (rg 39 [oM 34 t1,oM 35 t8,oP 36 (.iaddr 6 t34 t35),oP 37 (.faddr 0 t36),oP 38 (.load none t37),oP 39 (.bi .neq t38 (vI 5))]) (.cond t39 (.seq (rg 6 [oP 6 (.mv vF)]) (.canon [(1000000,some 5,.u8,0),(3000003,none,.u8,0)] [6] .ret)) .skip)) (.reg 0 (some [0,1,2,3,4,5,6,7,8,9,10,11,12,13,14]) [oM 40 t0,oM 41 t0,oP 42 (.nk t41),oP 43 (.faddr 5 t42),oP 44 (.load none t43),oM 45 t1,oM 46 t8,oP 47 (.iaddr 6 t45 t46),oP 48 (.faddr 2 t47),oP 49 (.load none t48),oP 50 (.bslice 9 1 1 [.string ⟨#[]⟩] [(0,t49)]),oP 51 (.append 9 1 16 [.string ⟨#[]⟩] t44 t50),oP 52 (.nk t40),oP 53 (.faddr 5 t52),oN (.store 1 t53 t51)])))) (rg 30 [oP 54 (.bi .add t30 (vI 1)),oM 30 t54]))))))
def zae_b1:IQ:=(.seq (rg 0 [oM 55 t0,oM 56 t1,oM 57 t2,oP 58 (.iaddr 6 t56 t57),oP 59 (.faddr 2 t58),oP 60 (.load none t59),oP 61 (.bslice 9 1 1 [.string ⟨#[]⟩] [(0,t60)]),oP 62 (.nk t55),oP 63 (.faddr 5 t62),oN (.store 1 t63 t61)]) (.seq (rg 6 [oP 6 (.mv vT)]) (.canon [(1000000,some 5,.u8,0),(3000003,none,.u8,0)] [6] .ret)))
def zae_q:IQ:=(.seq (rg 6 [oP 6 (.mv vF)]) (.seq (rg 0 [oM 9 t0,oP 10 (.nk t9),oP 11 (.faddr 6 t10),oN (.store 1 t11 vT)]) (.seq (.seq (rg 16 [oM 12 t1,oM 13 t2,oP 14 (.iaddr 6 t12 t13),oP 15 (.faddr 0 t14),oP 16 (.load none t15)]) (.block 0 (.seq (.block 3 (.block 2 (.seq (.block 1 (.seq (.seq (.seq (rg 17 [oP 18 (.bi .eql t16 (vI 6)),oM 17 t18]) (.cond t17 (.exit 1) .skip)) (.seq (.seq (.seq (rg 19 [oP 20 (.bi .eql t16 (vI 1)),oM 19 t20]) (.cond t19 .skip (rg 19 [oP 21 (.bi .eql t16 (vI 3)),oM 19 t21]))) (.cond t19 (.exit 2) .skip)) (.seq (.seq (rg 22 [oP 23 (.bi .eql t16 (vI 2)),oM 22 t23]) (.cond t22 .skip (.seq (rg 22 [oP 24 (.bi .eql t16 (vI 4)),oM 22 t24]) (.cond t22 .skip (rg 22 [oP 25 (.bi .eql t16 (vI 7)),oM 22 t25]))))) (.cond t22 (.exit 3) .skip)))) (.exit 0))) (.seq (.seq (.seq (rg 30 [oM 26 t1,oM 27 t2,oP 28 (.call 29 [t26,t27]),oP 29 (.len t28),oP 30 (.mv (vI 0))]) (.block 4 (.canon [(1000000,some 5,.u8,0)] [0,1,28,29,30] (.sub 0 zae_b0)))) (.seq (rg 6 [oP 6 (.mv vT)]) (.canon [(1000000,some 5,.u8,0),(3000003,none,.u8,0)] [6] .ret))) (.exit 0))))) (.seq (.seq (rg 6 [oP 6 (.mv vF)]) (.canon [(1000000,some 5,.u8,0),(3000003,none,.u8,0)] [6] .ret)) (.exit 0))))) (.cn [0,1,2] (.sub 1 zae_b1)))))
theorem zae_chk:chk Tryd.prog 84 []=some (zae_q.erase,[.tmp 6],64):=by kernel_rfl
def qDv (x29_ x30_:Int) (v:List Eng.Node) (x28_:List Int) (qG1:List BA):Option ((Int × (List BA)) ⊕ ((Bool × (List BA)) ⊕ ((List BA)))) :=
 bif decide (x30_<x29_) then (
  gd (0≤x30_∧x30_<x28_.length) <|
  gd ((Int.toNat x30_)<x28_.length) <|
  gd (0≤(x28_.getD (Int.toNat x30_) (ET.dft .i64))∧(x28_.getD (Int.toNat x30_) (ET.dft .i64))<v.length) <|
  gd ((Int.toNat (x28_.getD (Int.toNat x30_) (ET.dft .i64)))<v.length) <|
  gd ((Int.toNat (x28_.getD (Int.toNat x30_) (ET.dft .i64)))<v.length) <|
  bif (!decide (((v.getD (Int.toNat (x28_.getD (Int.toNat x30_) (ET.dft .i64))) (ET.dft .node)).kind)=(5:Int))) then (
   some (.inr (.inl (false,qG1))))
  else (
   gd (0≤(x28_.getD (Int.toNat x30_) (ET.dft .i64))∧(x28_.getD (Int.toNat x30_) (ET.dft .i64))<v.length) <|
   gd ((Int.toNat (x28_.getD (Int.toNat x30_) (ET.dft .i64)))<v.length) <|
   gd ((Int.toNat (x28_.getD (Int.toNat x30_) (ET.dft .i64)))<v.length) <|
   gd (qG1.length+([(v.getD (Int.toNat (x28_.getD (Int.toNat x30_) (ET.dft .i64))) (ET.dft .node)).text]:List BA).length≤9223372036854775807∧(qG1.length+([(v.getD (Int.toNat (x28_.getD (Int.toNat x30_) (ET.dft .i64))) (ET.dft .node)).text]:List BA).length)*16≤140737488355328) <|
   gd (qAe (x30_+(1:Int))) <|
   some (.inl ((x30_+(1:Int)),(qG1++[(v.getD (Int.toNat (x28_.getD (Int.toNat x30_) (ET.dft .i64))) (ET.dft .node)).text])))))
 else (
  some (.inr (.inr qG1)))
def zae_p0 (x29_ x30_:Int) (v:List Eng.Node) (x28_:List Int) (qG1:List BA):Option ((Bool × (List BA)) ⊕ ((List BA))) :=
 qA3 (fun x:(Int × (List BA))=>qDv x29_ x.1 v x28_ x.2) (x30_,qG1)
def zae_p1 (at_:Int) (v:List Eng.Node):Option (Bool × (List BA)) :=
 gd (0≤at_∧at_<v.length) <|
 gd ((Int.toNat at_)<v.length) <|
 gd ((Int.toNat at_)<v.length) <|
 some (true,[(v.getD (Int.toNat at_) (ET.dft .node)).text])
def zae_s (c:qGn) (v:(List Eng.Node)) (at_:Int):Option (qGn × Bool) :=
 gd (0≤at_∧at_<v.length) <|
 gd ((Int.toNat at_)<v.length) <|
 gd ((Int.toNat at_)<v.length) <|
 bif decide (((v.getD (Int.toNat at_) (ET.dft .node)).kind)=(6:Int)) then (
  (zan_s v at_).bind fun r9 =>
  (zae_p0 (r9.length:Int) (0:Int) v r9 c.aud).bind fun o10=>(Sum.elim (fun (o10_0:Bool × (List BA)) =>
   some ((⟨c.value,c.iss,c.hasIss,c.sub,c.hasSub,o10_0.2,true,c.jti,c.hasJti,c.exp_,c.nbf,c.iat⟩:qGn),o10_0.1)) (fun (o10_1:(List BA)) =>
   some ((⟨c.value,c.iss,c.hasIss,c.sub,c.hasSub,o10_1,true,c.jti,c.hasJti,c.exp_,c.nbf,c.iat⟩:qGn),true))) o10)
 else (
  bif decide (((v.getD (Int.toNat at_) (ET.dft .node)).kind)=(1:Int)) then (
   bif decide (((v.getD (Int.toNat at_) (ET.dft .node)).kind)=(1:Int)) then (
    some ((⟨c.value,c.iss,c.hasIss,c.sub,c.hasSub,c.aud,true,c.jti,c.hasJti,c.exp_,c.nbf,c.iat⟩:qGn),false))
   else (
    bif decide (((v.getD (Int.toNat at_) (ET.dft .node)).kind)=(2:Int)) then (
     bif decide (((v.getD (Int.toNat at_) (ET.dft .node)).kind)=(2:Int)) then (
      some ((⟨c.value,c.iss,c.hasIss,c.sub,c.hasSub,c.aud,true,c.jti,c.hasJti,c.exp_,c.nbf,c.iat⟩:qGn),false))
     else (
      (zae_p1 at_ v).bind fun o11 =>
      some ((⟨c.value,c.iss,c.hasIss,c.sub,c.hasSub,o11.2,true,c.jti,c.hasJti,c.exp_,c.nbf,c.iat⟩:qGn),o11.1)))
    else (
     bif decide (((v.getD (Int.toNat at_) (ET.dft .node)).kind)=(4:Int)) then (
      bif decide (((v.getD (Int.toNat at_) (ET.dft .node)).kind)=(4:Int)) then (
       some ((⟨c.value,c.iss,c.hasIss,c.sub,c.hasSub,c.aud,true,c.jti,c.hasJti,c.exp_,c.nbf,c.iat⟩:qGn),false))
      else (
       (zae_p1 at_ v).bind fun o12 =>
       some ((⟨c.value,c.iss,c.hasIss,c.sub,c.hasSub,o12.2,true,c.jti,c.hasJti,c.exp_,c.nbf,c.iat⟩:qGn),o12.1)))
     else (
      bif decide (((v.getD (Int.toNat at_) (ET.dft .node)).kind)=(7:Int)) then (
       some ((⟨c.value,c.iss,c.hasIss,c.sub,c.hasSub,c.aud,true,c.jti,c.hasJti,c.exp_,c.nbf,c.iat⟩:qGn),false))
      else (
       (zae_p1 at_ v).bind fun o13 =>
       some ((⟨c.value,c.iss,c.hasIss,c.sub,c.hasSub,o13.2,true,c.jti,c.hasJti,c.exp_,c.nbf,c.iat⟩:qGn),o13.1))))))
  else (
   bif decide (((v.getD (Int.toNat at_) (ET.dft .node)).kind)=(3:Int)) then (
    some ((⟨c.value,c.iss,c.hasIss,c.sub,c.hasSub,c.aud,true,c.jti,c.hasJti,c.exp_,c.nbf,c.iat⟩:qGn),false))
   else (
    bif decide (((v.getD (Int.toNat at_) (ET.dft .node)).kind)=(2:Int)) then (
     bif decide (((v.getD (Int.toNat at_) (ET.dft .node)).kind)=(2:Int)) then (
      some ((⟨c.value,c.iss,c.hasIss,c.sub,c.hasSub,c.aud,true,c.jti,c.hasJti,c.exp_,c.nbf,c.iat⟩:qGn),false))
     else (
      (zae_p1 at_ v).bind fun o14 =>
      some ((⟨c.value,c.iss,c.hasIss,c.sub,c.hasSub,o14.2,true,c.jti,c.hasJti,c.exp_,c.nbf,c.iat⟩:qGn),o14.1)))
    else (
     bif decide (((v.getD (Int.toNat at_) (ET.dft .node)).kind)=(4:Int)) then (
      bif decide (((v.getD (Int.toNat at_) (ET.dft .node)).kind)=(4:Int)) then (
       some ((⟨c.value,c.iss,c.hasIss,c.sub,c.hasSub,c.aud,true,c.jti,c.hasJti,c.exp_,c.nbf,c.iat⟩:qGn),false))
      else (
       (zae_p1 at_ v).bind fun o15 =>
       some ((⟨c.value,c.iss,c.hasIss,c.sub,c.hasSub,o15.2,true,c.jti,c.hasJti,c.exp_,c.nbf,c.iat⟩:qGn),o15.1)))
     else (
      bif decide (((v.getD (Int.toNat at_) (ET.dft .node)).kind)=(7:Int)) then (
       some ((⟨c.value,c.iss,c.hasIss,c.sub,c.hasSub,c.aud,true,c.jti,c.hasJti,c.exp_,c.nbf,c.iat⟩:qGn),false))
      else (
       (zae_p1 at_ v).bind fun o16 =>
       some ((⟨c.value,c.iss,c.hasIss,c.sub,c.hasSub,o16.2,true,c.jti,c.hasJti,c.exp_,c.nbf,c.iat⟩:qGn),o16.1)))))))
def zae_G:Nat→Option CQ:=tblQ [(29,zan_w)]
theorem zae_Gok:∀f C,zae_G f=some C→qAg Tryd.prog f C:=qAj ⟨zan_ok,tV⟩
def zae_d0:=(dQS (qAa (dSO 0 (dH 0 0)) (qAa (dSO 1 (dO 1)) (qAa (dSO 28 (dO 4)) (qAa (dSO 29 dZ) (qAa (dSO 30 dZ) dNil))))) (qAa (qAp 51 (qAa (dO 2) (qAa dS (qAa dB (qAa dS (qAa dB (qAa (dO 5) (qAa dB (qAa dS (qAa dB (qAa dB (qAa dZ (qAa dB (qAa dZ (qAa dB (qAa dZ dNil)))))))))))))))) (qAa (qAv .node) (qAa (qAv .node) (qAa dDead (qAa (dRow .i64 3) (qAa (dRow .str 9) dNil)))))))
def zae_l0:SubQ:=mkL zae_d0 (fun x=>zae_p0 x.1.2.2.2.1 x.1.2.2.2.2.1 x.2.2.1 x.2.2.2.2.2.1 x.2.2.2.2.2.2.1) fun x r R kn kx kr=>(Sum.elim (fun (r_0:Bool × (List BA))=>kr ⟨[sL 6 (.vB r_0.1)],[],[.cells 51 [.own 2,.vS x.2.1.2.1,.vB x.2.1.2.2.1,.vS x.2.1.2.2.2.1,.vB x.2.1.2.2.2.2.1,.own 4,.vB x.2.1.2.2.2.2.2.2.1,.vS x.2.1.2.2.2.2.2.2.2.1,.vB x.2.1.2.2.2.2.2.2.2.2.1,.vB x.2.1.2.2.2.2.2.2.2.2.2.1,.vI x.2.1.2.2.2.2.2.2.2.2.2.2.1,.vB x.2.1.2.2.2.2.2.2.2.2.2.2.2.1,.vI x.2.1.2.2.2.2.2.2.2.2.2.2.2.2.1,.vB x.2.1.2.2.2.2.2.2.2.2.2.2.2.2.2.1,.vI x.2.1.2.2.2.2.2.2.2.2.2.2.2.2.2.2.1],.view .node x.2.2.1,.view .node x.2.2.2.1,.dead,.row .str 9 r_0.2]⟩) (fun (r_1:(List BA))=>kx 4 ⟨[sL 0 (.hd 0 0)],[],[.cells 51 [.own 2,.vS x.2.1.2.1,.vB x.2.1.2.2.1,.vS x.2.1.2.2.2.1,.vB x.2.1.2.2.2.2.1,.own 4,.vB x.2.1.2.2.2.2.2.2.1,.vS x.2.1.2.2.2.2.2.2.2.1,.vB x.2.1.2.2.2.2.2.2.2.2.1,.vB x.2.1.2.2.2.2.2.2.2.2.2.1,.vI x.2.1.2.2.2.2.2.2.2.2.2.2.1,.vB x.2.1.2.2.2.2.2.2.2.2.2.2.2.1,.vI x.2.1.2.2.2.2.2.2.2.2.2.2.2.2.1,.vB x.2.1.2.2.2.2.2.2.2.2.2.2.2.2.2.1,.vI x.2.1.2.2.2.2.2.2.2.2.2.2.2.2.2.2.1],.view .node x.2.2.1,.view .node x.2.2.2.1,.dead,.row .str 9 r_1]⟩)) r
def zae_d1:=(dQS (qAa (dSO 0 (dH 0 0)) (qAa (dSO 1 (dO 1)) (qAa (dSO 2 dZ) dNil))) (qAa (qAp 51 (qAa (dO 2) (qAa dS (qAa dB (qAa dS (qAa dB (qAa (dO 3) (qAa dB (qAa dS (qAa dB (qAa dB (qAa dZ (qAa dB (qAa dZ (qAa dB (qAa dZ dNil)))))))))))))))) (qAa (qAv .node) (qAa (qAv .node) (qAa (dRow .str 9) dNil)))))
def zae_l1:SubQ:=mkL zae_d1 (fun x=>zae_p1 x.1.2.2.1 x.2.2.1) fun x r R kn kx kr=>kr ⟨[sL 6 (.vB r.1)],[],[.cells 51 [.own 2,.vS x.2.1.2.1,.vB x.2.1.2.2.1,.vS x.2.1.2.2.2.1,.vB x.2.1.2.2.2.2.1,.own 4,.vB x.2.1.2.2.2.2.2.2.1,.vS x.2.1.2.2.2.2.2.2.2.1,.vB x.2.1.2.2.2.2.2.2.2.2.1,.vB x.2.1.2.2.2.2.2.2.2.2.2.1,.vI x.2.1.2.2.2.2.2.2.2.2.2.2.1,.vB x.2.1.2.2.2.2.2.2.2.2.2.2.2.1,.vI x.2.1.2.2.2.2.2.2.2.2.2.2.2.2.1,.vB x.2.1.2.2.2.2.2.2.2.2.2.2.2.2.2.1,.vI x.2.1.2.2.2.2.2.2.2.2.2.2.2.2.2.2.1],.view .node x.2.2.1,.view .node x.2.2.2.1,.dead,.row .str 9 r.2]⟩
def zae_L:Nat→SubQ:=tblL [(0,zae_l0),(1,zae_l1)]
theorem zae_sub0:qBf zae_L zae_G 4 31 64 0 zae_b0:=qAu (show zae_L 0=zae_l0 from by kernel_rfl) fun x R kn kx kr=>qAq (step:=fun y=>qDv x.1.2.2.2.1 y.1 x.2.2.1 x.2.2.2.2.2.1 y.2) (enc:=fun (y:Int × (List BA))=>zae_d0.e ((x.1.1,x.1.2.1,x.1.2.2.1,x.1.2.2.2.1,y.1,x.1.2.2.2.2.2),(x.2.1,x.2.2.1,x.2.2.2.1,x.2.2.2.2.1,x.2.2.2.2.2.1,y.2,x.2.2.2.2.2.2.2))) (fun y=>by kernel_rfl) (fun y ki=>by simp only [qDv,-eq_self,qAc,qAf,obA,obS,slL,slR,qAd]; kernel_rfl) (x.1.2.2.2.2.1,x.2.2.2.2.2.2.1)
theorem zae_sub1:qBf zae_L zae_G 4 31 64 1 zae_b1:=qAu (show zae_L 1=zae_l1 from by kernel_rfl) fun x R kn kx kr=>by
 simp only [zae_p1,-eq_self,qAc,qAf,obA,obS,slL,slR,qAd]
 kernel_rfl
theorem zae_subs:qAr zae_L zae_G 4 31 64 zae_q:=qAl (show qAt zae_L zae_G 4 31 64 [(0,zae_b0),(1,zae_b1)] from ⟨zae_sub0,zae_sub1,tV⟩)
def zae_da:=(qAa (dVC (dCO (dH 0 0))) (qAa (dVC (dCO (dO 1))) (qAa (dVC (dCO dZ)) dNil)))
def zae_db:=(qAa (qAp 51 (qAa (dO 2) (qAa dS (qAa dB (qAa dS (qAa dB (qAa (dO 3) (qAa dB (qAa dS (qAa dB (qAa dB (qAa dZ (qAa dB (qAa dZ (qAa dB (qAa dZ dNil)))))))))))))))) (qAa (qAv .node) (qAa (qAv .node) (qAa (dRow .str 9) dNil))))
def zae_c:CS:=mkC zae_da zae_db (fun x y=>zae_s (⟨y.2.2.1,y.1.2.1,y.1.2.2.1,y.1.2.2.2.1,y.1.2.2.2.2.1,y.2.2.2.1,y.1.2.2.2.2.2.2.1,y.1.2.2.2.2.2.2.2.1,y.1.2.2.2.2.2.2.2.2.1,(⟨y.1.2.2.2.2.2.2.2.2.2.1,y.1.2.2.2.2.2.2.2.2.2.2.1⟩:qGs),(⟨y.1.2.2.2.2.2.2.2.2.2.2.2.1,y.1.2.2.2.2.2.2.2.2.2.2.2.2.1⟩:qGs),(⟨y.1.2.2.2.2.2.2.2.2.2.2.2.2.2.1,y.1.2.2.2.2.2.2.2.2.2.2.2.2.2.2.1⟩:qGs)⟩:qGn) y.2.1 x.2.2.1) (fun x y r=>.c (.o (.vB r.2))) fun x y r=>[.cells 51 [.own 2,.vS r.1.iss,.vB r.1.hasIss,.vS r.1.sub,.vB r.1.hasSub,.own 4,.vB r.1.hasAud,.vS r.1.jti,.vB r.1.hasJti,.vB r.1.exp_.has,.vI r.1.exp_.at_,.vB r.1.nbf.has,.vI r.1.nbf.at_,.vB r.1.iat.has,.vI r.1.iat.at_],.view .node y.2.1,.view .node y.2.2.1,.dead,.row .str 9 r.1.aud]
theorem zae_val:qAn Tryd.prog 84 zae_c:=qAo zae_chk 31 zae_Gok 4 (fun x=>Nat.le_of_ble_eq_true rfl) (fun y=>rfl) zae_subs fun x y=>by
 simp only [zae_s,-eq_self,qAc,qAf,obA,obS,slL,slR,qAd]
 kernel_rfl
def zae_w:CQ:=qB4 [(0,some 0,some (.node,46)),(0,some 5,some (.str,9)),(1,none,some (.node,46))] (qC6 [true,false,false,true] zae_c)
theorem zae_ok:qAg Tryd.prog 84 zae_w:=qAz zae_val
def zag_q:IQ:=(.seq (rg 6 [oP 6 (.mv vF)]) (.seq (rg 0 [oM 11 t1,oM 12 t2,oP 13 (.iaddr 6 t11 t12),oP 14 (.load (some 6) t13),oP 7 (.alloc 46 [.int .i64 0,.string ⟨#[]⟩,.string ⟨#[]⟩,.bool false,.int .i64 0,.int .i64 0]),oN (.store 6 t7 t14)]) (.seq (rg 8 [oP 8 (.mv (.v (.pointer none)))]) (.seq (rg 9 [oP 9 (.mv (.v (.pointer none)))]) (.seq (rg 10 [oP 10 (.mv (.v (.pointer none)))]) (.seq (.seq (rg 16 [oP 15 (.faddr 1 t7),oP 16 (.load none t15)]) (.block 0 (.seq (rg 17 [oP 18 (.bi .eql t16 (.v (.string ⟨#[105,115,115]⟩))),oM 17 t18]) (.cond t17 (.reg 9 (some [0,1,2,3,4,5,6,7]) [oM 19 t0,oP 20 (.nk t19),oP 21 (.faddr 1 t20),oM 22 t0,oP 23 (.nk t22),oP 24 (.faddr 2 t23),oM 8 t21,oM 9 t24]) (.seq (rg 25 [oP 26 (.bi .eql t16 (.v (.string ⟨#[115,117,98]⟩))),oM 25 t26]) (.cond t25 (.reg 9 (some [0,1,2,3,4,5,6,7]) [oM 27 t0,oP 28 (.nk t27),oP 29 (.faddr 3 t28),oM 30 t0,oP 31 (.nk t30),oP 32 (.faddr 4 t31),oM 8 t29,oM 9 t32]) (.seq (rg 33 [oP 34 (.bi .eql t16 (.v (.string ⟨#[106,116,105]⟩))),oM 33 t34]) (.cond t33 (.reg 9 (some [0,1,2,3,4,5,6,7]) [oM 35 t0,oP 36 (.nk t35),oP 37 (.faddr 7 t36),oM 38 t0,oP 39 (.nk t38),oP 40 (.faddr 8 t39),oM 8 t37,oM 9 t40]) (.seq (rg 41 [oP 42 (.bi .eql t16 (.v (.string ⟨#[101,120,112]⟩))),oM 41 t42]) (.cond t41 (rg 10 [oM 43 t0,oP 44 (.nk t43),oP 45 (.faddr 9 t44),oM 10 t45]) (.seq (rg 46 [oP 47 (.bi .eql t16 (.v (.string ⟨#[110,98,102]⟩))),oM 46 t47]) (.cond t46 (rg 10 [oM 48 t0,oP 49 (.nk t48),oP 50 (.faddr 11 t49),oM 10 t50]) (.seq (rg 51 [oP 52 (.bi .eql t16 (.v (.string ⟨#[105,97,116]⟩))),oM 51 t52]) (.cond t51 (rg 10 [oM 53 t0,oP 54 (.nk t53),oP 55 (.faddr 13 t54),oM 10 t55]) .skip)))))))))))))) (.seq (.block 1 (.seq (rg 56 [oM 57 t8,oP 58 (.ext (.ptrEq true) [t57,(.v (.pointer none))]),oM 56 t58]) (.cond t56 (.seq (rg 0 [oM 59 t8,oM 60 t9,oP 61 (.faddr 2 t7),oP 62 (.load none t61),oP 63 (.nk t59),oN (.store 1 t63 t62),oP 64 (.nk t60),oN (.store 1 t64 vT)]) (.seq (rg 6 [oP 65 (.faddr 0 t7),oP 66 (.load none t65),oP 67 (.bi .eql t66 (vI 5)),oM 6 t67]) (.canon [(1000000,some 5,.u8,0),(3000003,none,.u8,0)] [6] .ret))) (.seq (rg 68 [oM 69 t10,oP 70 (.ext (.ptrEq true) [t69,(.v (.pointer none))]),oM 68 t70]) (.cond t68 (.seq (rg 0 [oM 71 t10,oP 72 (.faddr 4 t7),oP 73 (.load none t72),oP 74 (.build [.bool false,.int .i64 0] [(0,1,vT),(1,1,t73)]),oP 75 (.nk t71),oN (.store 2 t75 t74)]) (.seq (rg 6 [oP 76 (.faddr 0 t7),oP 77 (.load none t76),oP 78 (.bi .eql t77 (vI 4)),oM 79 t78,oF 80 (.faddr 3 t7) 79,oF 81 (.load none t80) 79,oP 82 (.pick t79 t81 vF),oM 6 t82]) (.canon [(1000000,some 5,.u8,0),(3000003,none,.u8,0)] [6] .ret))) (.seq (rg 83 [oP 84 (.faddr 1 t7),oP 85 (.load none t84),oP 86 (.bi .eql t85 (.v (.string ⟨#[97,117,100]⟩))),oM 83 t86]) (.cond t83 (.seq (rg 6 [oM 87 t0,oM 88 t1,oM 89 t2,oP 90 (.call 84 [t87,t88,t89]),oM 6 t90]) (.canon [(1000000,some 5,.u8,0),(3000003,none,.u8,0)] [6] .ret)) .skip))))))) (.seq (rg 6 [oP 6 (.mv vT)]) (.canon [(1000000,some 5,.u8,0),(3000003,none,.u8,0)] [6] .ret)))))))))
theorem zag_chk:chk Tryd.prog 57 []=some (zag_q.erase,[.tmp 6],91):=by kernel_rfl
def zag_s (c:qGn) (v:(List Eng.Node)) (at_:Int):Option (qGn × Bool) :=
 gd (0≤at_∧at_<v.length) <|
 gd ((Int.toNat at_)<v.length) <|
 bif decide (((v.getD (Int.toNat at_) (ET.dft .node)).key)=(⟨#[105,115,115]⟩:BA)) then (
  some ((⟨c.value,(v.getD (Int.toNat at_) (ET.dft .node)).text,true,c.sub,c.hasSub,c.aud,c.hasAud,c.jti,c.hasJti,c.exp_,c.nbf,c.iat⟩:qGn),decide (((v.getD (Int.toNat at_) (ET.dft .node)).kind)=(5:Int))))
 else (
  bif decide (((v.getD (Int.toNat at_) (ET.dft .node)).key)=(⟨#[115,117,98]⟩:BA)) then (
   some ((⟨c.value,c.iss,c.hasIss,(v.getD (Int.toNat at_) (ET.dft .node)).text,true,c.aud,c.hasAud,c.jti,c.hasJti,c.exp_,c.nbf,c.iat⟩:qGn),decide (((v.getD (Int.toNat at_) (ET.dft .node)).kind)=(5:Int))))
  else (
   bif decide (((v.getD (Int.toNat at_) (ET.dft .node)).key)=(⟨#[106,116,105]⟩:BA)) then (
    some ((⟨c.value,c.iss,c.hasIss,c.sub,c.hasSub,c.aud,c.hasAud,(v.getD (Int.toNat at_) (ET.dft .node)).text,true,c.exp_,c.nbf,c.iat⟩:qGn),decide (((v.getD (Int.toNat at_) (ET.dft .node)).kind)=(5:Int))))
   else (
    bif decide (((v.getD (Int.toNat at_) (ET.dft .node)).key)=(⟨#[101,120,112]⟩:BA)) then (
     some ((⟨c.value,c.iss,c.hasIss,c.sub,c.hasSub,c.aud,c.hasAud,c.jti,c.hasJti,(⟨true,(v.getD (Int.toNat at_) (ET.dft .node)).int⟩:qGs),c.nbf,c.iat⟩:qGn),((decide (((v.getD (Int.toNat at_) (ET.dft .node)).kind)=(4:Int))) && ((v.getD (Int.toNat at_) (ET.dft .node)).whole))))
    else (
     bif decide (((v.getD (Int.toNat at_) (ET.dft .node)).key)=(⟨#[110,98,102]⟩:BA)) then (
      some ((⟨c.value,c.iss,c.hasIss,c.sub,c.hasSub,c.aud,c.hasAud,c.jti,c.hasJti,c.exp_,(⟨true,(v.getD (Int.toNat at_) (ET.dft .node)).int⟩:qGs),c.iat⟩:qGn),((decide (((v.getD (Int.toNat at_) (ET.dft .node)).kind)=(4:Int))) && ((v.getD (Int.toNat at_) (ET.dft .node)).whole))))
     else (
      bif decide (((v.getD (Int.toNat at_) (ET.dft .node)).key)=(⟨#[105,97,116]⟩:BA)) then (
       some ((⟨c.value,c.iss,c.hasIss,c.sub,c.hasSub,c.aud,c.hasAud,c.jti,c.hasJti,c.exp_,c.nbf,(⟨true,(v.getD (Int.toNat at_) (ET.dft .node)).int⟩:qGs)⟩:qGn),((decide (((v.getD (Int.toNat at_) (ET.dft .node)).kind)=(4:Int))) && ((v.getD (Int.toNat at_) (ET.dft .node)).whole))))
      else (
       bif decide (((v.getD (Int.toNat at_) (ET.dft .node)).key)=(⟨#[97,117,100]⟩:BA)) then (
        (zae_s c v at_).bind fun r2 =>
        some ((⟨c.value,r2.1.iss,r2.1.hasIss,r2.1.sub,r2.1.hasSub,r2.1.aud,r2.1.hasAud,r2.1.jti,r2.1.hasJti,r2.1.exp_,r2.1.nbf,r2.1.iat⟩:qGn),r2.2))
       else (
        some (c,true))))))))
def zag_G:Nat→Option CQ:=tblQ [(84,zae_w)]
theorem zag_Gok:∀f C,zag_G f=some C→qAg Tryd.prog f C:=qAj ⟨zae_ok,tV⟩
def zag_L:Nat→SubQ:=tblL []
theorem zag_subs:qAr zag_L zag_G 4 17 91 zag_q:=qAl (show qAt zag_L zag_G 4 17 91 [] from tV)
def zag_da:=(qAa (dVC (dCO (dH 0 0))) (qAa (dVC (dCO (dO 1))) (qAa (dVC (dCO dZ)) dNil)))
def zag_db:=(qAa (qAp 51 (qAa (dO 2) (qAa dS (qAa dB (qAa dS (qAa dB (qAa (dO 3) (qAa dB (qAa dS (qAa dB (qAa dB (qAa dZ (qAa dB (qAa dZ (qAa dB (qAa dZ dNil)))))))))))))))) (qAa (qAv .node) (qAa (qAv .node) (qAa (dRow .str 9) dNil))))
def zag_c:CS:=mkC zag_da zag_db (fun x y=>zag_s (⟨y.2.2.1,y.1.2.1,y.1.2.2.1,y.1.2.2.2.1,y.1.2.2.2.2.1,y.2.2.2.1,y.1.2.2.2.2.2.2.1,y.1.2.2.2.2.2.2.2.1,y.1.2.2.2.2.2.2.2.2.1,(⟨y.1.2.2.2.2.2.2.2.2.2.1,y.1.2.2.2.2.2.2.2.2.2.2.1⟩:qGs),(⟨y.1.2.2.2.2.2.2.2.2.2.2.2.1,y.1.2.2.2.2.2.2.2.2.2.2.2.2.1⟩:qGs),(⟨y.1.2.2.2.2.2.2.2.2.2.2.2.2.2.1,y.1.2.2.2.2.2.2.2.2.2.2.2.2.2.2.1⟩:qGs)⟩:qGn) y.2.1 x.2.2.1) (fun x y r=>.c (.o (.vB r.2))) fun x y r=>[.cells 51 [.own 2,.vS r.1.iss,.vB r.1.hasIss,.vS r.1.sub,.vB r.1.hasSub,.own 4,.vB r.1.hasAud,.vS r.1.jti,.vB r.1.hasJti,.vB r.1.exp_.has,.vI r.1.exp_.at_,.vB r.1.nbf.has,.vI r.1.nbf.at_,.vB r.1.iat.has,.vI r.1.iat.at_],.view .node y.2.1,.view .node y.2.2.1,.dead,.row .str 9 r.1.aud]
theorem zag_val:qAn Tryd.prog 57 zag_c:=qAo zag_chk 17 zag_Gok 4 (fun x=>Nat.le_of_ble_eq_true rfl) (fun y=>rfl) zag_subs fun x y=>by
 simp only [zag_s,-eq_self,qAc,qAf,obA,obS,slL,slR,qAd]
 kernel_rfl
def zag_w:CQ:=qB4 [(0,some 0,some (.node,46)),(0,some 5,some (.str,9)),(1,none,some (.node,46))] (qC6 [true,false,false,true] zag_c)
theorem zag_ok:qAg Tryd.prog 57 zag_w:=qAz zag_val
def zad_b0:IQ:=(.loop [2,4,7,27,28,29] (.seq (rg 30 [oP 30 (.bi .lss t29 t28)]) (.seq (.cond t30 .skip (.cn [2,4,7] (.exit 0))) (.seq (.block 1 (.seq (rg 9 [oP 31 (.iaddr 1 t27 t29),oP 32 (.load none t31),oM 9 t32]) (.seq (rg 36 [oM 33 t4,oM 34 t9,oP 35 (.call 57 [t7,t33,t34]),oP 36 (.un .not t35)]) (.cond t36 (.seq (rg 3 [oP 37 (.build [.slice none 0 0,.string ⟨#[]⟩,.bool false,.string ⟨#[]⟩,.bool false,.slice none 0 0,.bool false,.string ⟨#[]⟩,.bool false,.bool false,.int .i64 0,.bool false,.int .i64 0,.bool false,.int .i64 0] []),oN (.store 15 t2 t37),oP 3 (.mv (vI 131))]) (.canon [(2,some 0,.node,46),(2,some 5,.str,9)] [2,3] .ret)) .skip)))) (rg 29 [oP 38 (.bi .add t29 (vI 1)),oM 29 t38])))))
def zad_q:IQ:=(.seq (rg 3 [oP 2 (.alloc 51 [.slice none 0 0,.string ⟨#[]⟩,.bool false,.string ⟨#[]⟩,.bool false,.slice none 0 0,.bool false,.string ⟨#[]⟩,.bool false,.bool false,.int .i64 0,.bool false,.int .i64 0,.bool false,.int .i64 0]),oP 3 (.mv (vI 0))]) (.seq (rg 6 [oM 11 t0,oP 12 (.call 20 [t11]),oM 10 t12,oP 13 (.extract t10 0),oP 14 (.extract t10 1),oP 15 (.extract t10 2),oM 4 t13,oM 5 t14,oM 6 t15]) (.seq (.seq (rg 17 [oM 16 t5,oP 17 (.bi .neq t16 (vI 0))]) (.cond t17 (.seq (rg 3 [oP 18 (.build [.slice none 0 0,.string ⟨#[]⟩,.bool false,.string ⟨#[]⟩,.bool false,.slice none 0 0,.bool false,.string ⟨#[]⟩,.bool false,.bool false,.int .i64 0,.bool false,.int .i64 0,.bool false,.int .i64 0] []),oM 19 t5,oN (.store 15 t2 t18),oM 3 t19]) (.canon [(2,some 0,.node,46),(2,some 5,.str,9)] [2,3] .ret)) .skip)) (.seq (.seq (rg 24 [oM 20 t4,oP 21 (.iaddr 6 t20 (vI 0)),oP 22 (.faddr 0 t21),oP 23 (.load none t22),oP 24 (.bi .neq t23 (vI 7))]) (.cond t24 (.seq (rg 3 [oP 25 (.build [.slice none 0 0,.string ⟨#[]⟩,.bool false,.string ⟨#[]⟩,.bool false,.slice none 0 0,.bool false,.string ⟨#[]⟩,.bool false,.bool false,.int .i64 0,.bool false,.int .i64 0,.bool false,.int .i64 0] []),oN (.store 15 t2 t25),oP 3 (.mv (vI 130))]) (.canon [(2,some 0,.node,46),(2,some 5,.str,9)] [2,3] .ret)) .skip)) (.seq (rg 7 [oP 7 (.alloc 51 [.slice none 0 0,.string ⟨#[]⟩,.bool false,.string ⟨#[]⟩,.bool false,.slice none 0 0,.bool false,.string ⟨#[]⟩,.bool false,.bool false,.int .i64 0,.bool false,.int .i64 0,.bool false,.int .i64 0])]) (.seq (.seq (rg 29 [oM 26 t4,oP 27 (.call 29 [t26,(vI 0)]),oP 28 (.len t27),oP 29 (.mv (vI 0))]) (.block 0 (.canon [(7,some 0,.node,46),(7,some 5,.str,9)] [2,4,7,27,28,29] (.sub 0 zad_b0)))) (.seq (rg 0 [oM 39 t4,oP 40 (.faddr 0 t7),oN (.store 1 t40 t39)]) (.seq (rg 3 [oP 41 (.load (some 15) t7),oN (.store 15 t2 t41),oP 3 (.mv (vI 0))]) (.canon [(2,some 0,.node,46),(2,some 5,.str,9)] [2,3] .ret)))))))))
theorem zad_chk:chk Tryd.prog 23 []=some (zad_q.erase,[.cell 2 (some 15),.tmp 3],42):=by kernel_rfl
def qD7 (x28_ x29_:Int) (v:List Eng.Node) (qHk:BA) (qHb:Bool) (qHl:BA) (qHc qHd:Bool) (qHm:BA) (qHe qG9:Bool) (qHf:Int) (qGz:Bool) (qG2:Int) (qG0:Bool) (qG3:Int) (x27_:List Int) (qHj:List Eng.Node) (qG1:List BA):Option ((Int × BA × Bool × BA × Bool × Bool × BA × Bool × Bool × Int × Bool × Int × Bool × Int × (List BA)) ⊕ ((Int × BA × Bool × BA × Bool × Bool × BA × Bool × Bool × Int × Bool × Int × Bool × Int × (List Eng.Node) × (List BA)) ⊕ (BA × Bool × BA × Bool × Bool × BA × Bool × Bool × Int × Bool × Int × Bool × Int × (List BA)))) :=
 bif decide (x29_<x28_) then (
  gd (0≤x29_∧x29_<x27_.length) <|
  gd ((Int.toNat x29_)<x27_.length) <|
  (zag_s (⟨qHj,qHk,qHb,qHl,qHc,qG1,qHd,qHm,qHe,(⟨qG9,qHf⟩:qGs),(⟨qGz,qG2⟩:qGs),(⟨qG0,qG3⟩:qGs)⟩:qGn) v (x27_.getD (Int.toNat x29_) (ET.dft .i64))).bind fun r54 =>
  bif (!r54.2) then (
   some (.inr (.inl ((131:Int),(⟨#[]⟩:BA),false,(⟨#[]⟩:BA),false,false,(⟨#[]⟩:BA),false,false,(0:Int),false,(0:Int),false,(0:Int),[],[]))))
  else (
   gd (qAe (x29_+(1:Int))) <|
   some (.inl ((x29_+(1:Int)),r54.1.iss,r54.1.hasIss,r54.1.sub,r54.1.hasSub,r54.1.hasAud,r54.1.jti,r54.1.hasJti,r54.1.exp_.has,r54.1.exp_.at_,r54.1.nbf.has,r54.1.nbf.at_,r54.1.iat.has,r54.1.iat.at_,r54.1.aud))))
 else (
  some (.inr (.inr (qHk,qHb,qHl,qHc,qHd,qHm,qHe,qG9,qHf,qGz,qG2,qG0,qG3,qG1))))
def zad_p0 (x28_ x29_:Int) (v:List Eng.Node) (qHk:BA) (qHb:Bool) (qHl:BA) (qHc qHd:Bool) (qHm:BA) (qHe qG9:Bool) (qHf:Int) (qGz:Bool) (qG2:Int) (qG0:Bool) (qG3:Int) (x27_:List Int) (qHj:List Eng.Node) (qG1:List BA):Option ((Int × BA × Bool × BA × Bool × Bool × BA × Bool × Bool × Int × Bool × Int × Bool × Int × (List Eng.Node) × (List BA)) ⊕ (BA × Bool × BA × Bool × Bool × BA × Bool × Bool × Int × Bool × Int × Bool × Int × (List BA))) :=
 qA3 (fun x:(Int × BA × Bool × BA × Bool × Bool × BA × Bool × Bool × Int × Bool × Int × Bool × Int × (List BA))=>qD7 x28_ x.1 v x.2.1 x.2.2.1 x.2.2.2.1 x.2.2.2.2.1 x.2.2.2.2.2.1 x.2.2.2.2.2.2.1 x.2.2.2.2.2.2.2.1 x.2.2.2.2.2.2.2.2.1 x.2.2.2.2.2.2.2.2.2.1 x.2.2.2.2.2.2.2.2.2.2.1 x.2.2.2.2.2.2.2.2.2.2.2.1 x.2.2.2.2.2.2.2.2.2.2.2.2.1 x.2.2.2.2.2.2.2.2.2.2.2.2.2.1 x27_ qHj x.2.2.2.2.2.2.2.2.2.2.2.2.2.2) (x29_,qHk,qHb,qHl,qHc,qHd,qHm,qHe,qG9,qHf,qGz,qG2,qG0,qG3,qG1)
def zad_s (payload:BA):Option (qGn × Int) :=
 (zap_s payload).bind fun r52 =>
 bif (!decide (r52.2.1=(0:Int))) then (
  some ((⟨[],(⟨#[]⟩:BA),false,(⟨#[]⟩:BA),false,[],false,(⟨#[]⟩:BA),false,(⟨false,(0:Int)⟩:qGs),(⟨false,(0:Int)⟩:qGs),(⟨false,(0:Int)⟩:qGs)⟩:qGn),r52.2.1))
 else (
  gd (0≤(0:Int)∧(0:Int)<r52.1.length) <|
  gd ((Int.toNat (0:Int))<r52.1.length) <|
  gd ((Int.toNat (0:Int))<r52.1.length) <|
  bif (!decide (((r52.1.getD (Int.toNat (0:Int)) (ET.dft .node)).kind)=(7:Int))) then (
   some ((⟨[],(⟨#[]⟩:BA),false,(⟨#[]⟩:BA),false,[],false,(⟨#[]⟩:BA),false,(⟨false,(0:Int)⟩:qGs),(⟨false,(0:Int)⟩:qGs),(⟨false,(0:Int)⟩:qGs)⟩:qGn),(130:Int)))
  else (
   (zan_s r52.1 (0:Int)).bind fun r53 =>
   (zad_p0 (r53.length:Int) (0:Int) r52.1 (⟨#[]⟩:BA) false (⟨#[]⟩:BA) false false (⟨#[]⟩:BA) false false (0:Int) false (0:Int) false (0:Int) r53 [] []).bind fun o55=>(Sum.elim (fun (o55_0:Int × BA × Bool × BA × Bool × Bool × BA × Bool × Bool × Int × Bool × Int × Bool × Int × (List Eng.Node) × (List BA)) =>
    some ((⟨o55_0.2.2.2.2.2.2.2.2.2.2.2.2.2.2.1,o55_0.2.1,o55_0.2.2.1,o55_0.2.2.2.1,o55_0.2.2.2.2.1,o55_0.2.2.2.2.2.2.2.2.2.2.2.2.2.2.2,o55_0.2.2.2.2.2.1,o55_0.2.2.2.2.2.2.1,o55_0.2.2.2.2.2.2.2.1,(⟨o55_0.2.2.2.2.2.2.2.2.1,o55_0.2.2.2.2.2.2.2.2.2.1⟩:qGs),(⟨o55_0.2.2.2.2.2.2.2.2.2.2.1,o55_0.2.2.2.2.2.2.2.2.2.2.2.1⟩:qGs),(⟨o55_0.2.2.2.2.2.2.2.2.2.2.2.2.1,o55_0.2.2.2.2.2.2.2.2.2.2.2.2.2.1⟩:qGs)⟩:qGn),o55_0.1)) (fun (o55_1:BA × Bool × BA × Bool × Bool × BA × Bool × Bool × Int × Bool × Int × Bool × Int × (List BA)) =>
    some ((⟨r52.1,o55_1.1,o55_1.2.1,o55_1.2.2.1,o55_1.2.2.2.1,o55_1.2.2.2.2.2.2.2.2.2.2.2.2.2,o55_1.2.2.2.2.1,o55_1.2.2.2.2.2.1,o55_1.2.2.2.2.2.2.1,(⟨o55_1.2.2.2.2.2.2.2.1,o55_1.2.2.2.2.2.2.2.2.1⟩:qGs),(⟨o55_1.2.2.2.2.2.2.2.2.2.1,o55_1.2.2.2.2.2.2.2.2.2.2.1⟩:qGs),(⟨o55_1.2.2.2.2.2.2.2.2.2.2.2.1,o55_1.2.2.2.2.2.2.2.2.2.2.2.2.1⟩:qGs)⟩:qGn),(0:Int)))) o55))
def zad_G:Nat→Option CQ:=tblQ [(20,zap_w),(29,zan_w),(57,zag_w)]
theorem zad_Gok:∀f C,zad_G f=some C→qAg Tryd.prog f C:=qAj ⟨zap_ok,zan_ok,zag_ok,tV⟩
def zad_d0:=(dQS (qAa (dSO 2 (dH 0 0)) (qAa (dSO 4 (dO 1)) (qAa (dSO 7 (dH 2 0)) (qAa (dSO 27 (dO 3)) (qAa (dSO 28 dZ) (qAa (dSO 29 dZ) dNil)))))) (qAa (qAp 51 (qAa dNS (qAa dS (qAa dB (qAa dS (qAa dB (qAa dNS (qAa dB (qAa dS (qAa dB (qAa dB (qAa dZ (qAa dB (qAa dZ (qAa dB (qAa dZ dNil)))))))))))))))) (qAa (dRow .node 46) (qAa (qAp 51 (qAa (dO 4) (qAa dS (qAa dB (qAa dS (qAa dB (qAa (dO 5) (qAa dB (qAa dS (qAa dB (qAa dB (qAa dZ (qAa dB (qAa dZ (qAa dB (qAa dZ dNil)))))))))))))))) (qAa (dRow .i64 3) (qAa (dRow .node 46) (qAa (dRow .str 9) dNil)))))))
def zad_l0:SubQ:=mkL zad_d0 (fun x=>zad_p0 x.1.2.2.2.2.1 x.1.2.2.2.2.2.1 x.2.2.1 x.2.2.2.1.2.1 x.2.2.2.1.2.2.1 x.2.2.2.1.2.2.2.1 x.2.2.2.1.2.2.2.2.1 x.2.2.2.1.2.2.2.2.2.2.1 x.2.2.2.1.2.2.2.2.2.2.2.1 x.2.2.2.1.2.2.2.2.2.2.2.2.1 x.2.2.2.1.2.2.2.2.2.2.2.2.2.1 x.2.2.2.1.2.2.2.2.2.2.2.2.2.2.1 x.2.2.2.1.2.2.2.2.2.2.2.2.2.2.2.1 x.2.2.2.1.2.2.2.2.2.2.2.2.2.2.2.2.1 x.2.2.2.1.2.2.2.2.2.2.2.2.2.2.2.2.2.1 x.2.2.2.1.2.2.2.2.2.2.2.2.2.2.2.2.2.2.1 x.2.2.2.2.1 x.2.2.2.2.2.1 x.2.2.2.2.2.2.1) fun x r R kn kx kr=>(Sum.elim (fun (r_0:Int × BA × Bool × BA × Bool × Bool × BA × Bool × Bool × Int × Bool × Int × Bool × Int × (List Eng.Node) × (List BA))=>kr ⟨[sL 2 (.hd 0 0),sL 3 (.vI r_0.1)],[],[.cells 51 [.own 1,.vS r_0.2.1,.vB r_0.2.2.1,.vS r_0.2.2.2.1,.vB r_0.2.2.2.2.1,.own 2,.vB r_0.2.2.2.2.2.1,.vS r_0.2.2.2.2.2.2.1,.vB r_0.2.2.2.2.2.2.2.1,.vB r_0.2.2.2.2.2.2.2.2.1,.vI r_0.2.2.2.2.2.2.2.2.2.1,.vB r_0.2.2.2.2.2.2.2.2.2.2.1,.vI r_0.2.2.2.2.2.2.2.2.2.2.2.1,.vB r_0.2.2.2.2.2.2.2.2.2.2.2.2.1,.vI r_0.2.2.2.2.2.2.2.2.2.2.2.2.2.1],.row .node 46 r_0.2.2.2.2.2.2.2.2.2.2.2.2.2.2.1,.row .str 9 r_0.2.2.2.2.2.2.2.2.2.2.2.2.2.2.2]⟩) (fun (r_1:BA × Bool × BA × Bool × Bool × BA × Bool × Bool × Int × Bool × Int × Bool × Int × (List BA))=>kx 0 ⟨[sL 2 (.hd 0 0),sL 4 (.own 1),sL 7 (.hd 2 0)],[],[.cells 51 [.val (.slice none 0 0),.vS x.2.1.2.1,.vB x.2.1.2.2.1,.vS x.2.1.2.2.2.1,.vB x.2.1.2.2.2.2.1,.val (.slice none 0 0),.vB x.2.1.2.2.2.2.2.2.1,.vS x.2.1.2.2.2.2.2.2.2.1,.vB x.2.1.2.2.2.2.2.2.2.2.1,.vB x.2.1.2.2.2.2.2.2.2.2.2.1,.vI x.2.1.2.2.2.2.2.2.2.2.2.2.1,.vB x.2.1.2.2.2.2.2.2.2.2.2.2.2.1,.vI x.2.1.2.2.2.2.2.2.2.2.2.2.2.2.1,.vB x.2.1.2.2.2.2.2.2.2.2.2.2.2.2.2.1,.vI x.2.1.2.2.2.2.2.2.2.2.2.2.2.2.2.2.1],.row .node 46 x.2.2.1,.cells 51 [.own 3,.vS r_1.1,.vB r_1.2.1,.vS r_1.2.2.1,.vB r_1.2.2.2.1,.own 4,.vB r_1.2.2.2.2.1,.vS r_1.2.2.2.2.2.1,.vB r_1.2.2.2.2.2.2.1,.vB r_1.2.2.2.2.2.2.2.1,.vI r_1.2.2.2.2.2.2.2.2.1,.vB r_1.2.2.2.2.2.2.2.2.2.1,.vI r_1.2.2.2.2.2.2.2.2.2.2.1,.vB r_1.2.2.2.2.2.2.2.2.2.2.2.1,.vI r_1.2.2.2.2.2.2.2.2.2.2.2.2.1],.row .node 46 x.2.2.2.2.2.1,.row .str 9 r_1.2.2.2.2.2.2.2.2.2.2.2.2.2]⟩)) r
def zad_L:Nat→SubQ:=tblL [(0,zad_l0)]
theorem zad_sub0:qBf zad_L zad_G 0 30 42 0 zad_b0:=qAu (show zad_L 0=zad_l0 from by kernel_rfl) fun x R kn kx kr=>qAq (step:=fun y=>qD7 x.1.2.2.2.2.1 y.1 x.2.2.1 y.2.1 y.2.2.1 y.2.2.2.1 y.2.2.2.2.1 y.2.2.2.2.2.1 y.2.2.2.2.2.2.1 y.2.2.2.2.2.2.2.1 y.2.2.2.2.2.2.2.2.1 y.2.2.2.2.2.2.2.2.2.1 y.2.2.2.2.2.2.2.2.2.2.1 y.2.2.2.2.2.2.2.2.2.2.2.1 y.2.2.2.2.2.2.2.2.2.2.2.2.1 y.2.2.2.2.2.2.2.2.2.2.2.2.2.1 x.2.2.2.2.1 x.2.2.2.2.2.1 y.2.2.2.2.2.2.2.2.2.2.2.2.2.2) (enc:=fun (y:Int × BA × Bool × BA × Bool × Bool × BA × Bool × Bool × Int × Bool × Int × Bool × Int × (List BA))=>zad_d0.e ((x.1.1,x.1.2.1,x.1.2.2.1,x.1.2.2.2.1,x.1.2.2.2.2.1,y.1,x.1.2.2.2.2.2.2),(x.2.1,x.2.2.1,(x.2.2.2.1.1,y.2.1,y.2.2.1,y.2.2.2.1,y.2.2.2.2.1,x.2.2.2.1.2.2.2.2.2.1,y.2.2.2.2.2.1,y.2.2.2.2.2.2.1,y.2.2.2.2.2.2.2.1,y.2.2.2.2.2.2.2.2.1,y.2.2.2.2.2.2.2.2.2.1,y.2.2.2.2.2.2.2.2.2.2.1,y.2.2.2.2.2.2.2.2.2.2.2.1,y.2.2.2.2.2.2.2.2.2.2.2.2.1,y.2.2.2.2.2.2.2.2.2.2.2.2.2.1,x.2.2.2.1.2.2.2.2.2.2.2.2.2.2.2.2.2.2.2),x.2.2.2.2.1,x.2.2.2.2.2.1,y.2.2.2.2.2.2.2.2.2.2.2.2.2.2,x.2.2.2.2.2.2.2))) (fun y=>by kernel_rfl) (fun y ki=>by simp only [qD7,-eq_self,qAc,qAf,obA,obS,slL,slR,qAd]; kernel_rfl) (x.1.2.2.2.2.2.1,x.2.2.2.1.2.1,x.2.2.2.1.2.2.1,x.2.2.2.1.2.2.2.1,x.2.2.2.1.2.2.2.2.1,x.2.2.2.1.2.2.2.2.2.2.1,x.2.2.2.1.2.2.2.2.2.2.2.1,x.2.2.2.1.2.2.2.2.2.2.2.2.1,x.2.2.2.1.2.2.2.2.2.2.2.2.2.1,x.2.2.2.1.2.2.2.2.2.2.2.2.2.2.1,x.2.2.2.1.2.2.2.2.2.2.2.2.2.2.2.1,x.2.2.2.1.2.2.2.2.2.2.2.2.2.2.2.2.1,x.2.2.2.1.2.2.2.2.2.2.2.2.2.2.2.2.2.1,x.2.2.2.1.2.2.2.2.2.2.2.2.2.2.2.2.2.2.1,x.2.2.2.2.2.2.1)
theorem zad_subs:qAr zad_L zad_G 0 30 42 zad_q:=qAl (show qAt zad_L zad_G 0 30 42 [(0,zad_b0)] from ⟨zad_sub0,tV⟩)
def zad_da:=(qAa (dVC (dCO dS)) dNil)
def zad_db:=(dNil:Dec Unit (List SB))
def zad_c:CS:=mkC zad_da zad_db (fun x y=>zad_s x.1) (fun x y r=>.tup [.agg [.own 0,.vS r.1.iss,.vB r.1.hasIss,.vS r.1.sub,.vB r.1.hasSub,.own 1,.vB r.1.hasAud,.vS r.1.jti,.vB r.1.hasJti,.vB r.1.exp_.has,.vI r.1.exp_.at_,.vB r.1.nbf.has,.vI r.1.nbf.at_,.vB r.1.iat.has,.vI r.1.iat.at_],.o (.vI r.2)]) fun x y r=>[.row .node 46 r.1.value,.row .str 9 r.1.aud]
theorem zad_val:qAn Tryd.prog 23 zad_c:=qAo zad_chk 30 zad_Gok 0 (fun x=>Nat.le_of_ble_eq_true rfl) (fun y=>rfl) zad_subs fun x y=>by
 simp only [zad_s,-eq_self,qAc,qAf,obA,obS,slL,slR,qAd]
 kernel_rfl
def zad_w:CQ:=qC6 [] zad_c
theorem zad_ok:qAg Tryd.prog 23 zad_w:=qEy zad_val
end
end Go.Proofs.YticplgndjpljiaaDoor
