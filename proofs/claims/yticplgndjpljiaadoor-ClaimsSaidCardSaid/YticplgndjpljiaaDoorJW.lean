/-
  Functions as the engine reads them (printed by gen.py).
-/
import Derived.Test.YticplgndjpljiaaDoorEngO
import Derived.Test.YticplgndjpljiaaDoorProg
import Derived.Test.YticplgndjpljiaaDoorPShape
import Derived.Test.YticplgndjpljiaaDoorGC
import Derived.Test.YticplgndjpljiaaDoorPShaped
import Derived.Test.YticplgndjpljiaaDoorJP
import Derived.Test.YticplgndjpljiaaDoorPLexQ
namespace Go.Proofs.YticplgndjpljiaaDoor
open Go.Eng
set_option linter.unusedVariables false
set_option linter.unusedSimpArgs false
set_option maxRecDepth 100000
noncomputable section
structure qHf where
 has:Bool
 at_:Int
structure qHc where
 value:(List Eng.Node)
 iss:BA
 hasIss:Bool
 sub:BA
 hasSub:Bool
 aud:(List BA)
 hasAud:Bool
 jti:BA
 hasJti:Bool
 exp_:qHf
 nbf:qHf
 iat:qHf
def zae_b0:IQ:=(.loop [0,1,28,29,30] (.join [(1000000,some 5,.u8,0)] [0,1,28,29,30] (.seq (rg 31 [oP 31 (.bi .lss t30 t29)]) (.seq (.cond t31 .skip (.cn [0] (.exit 4))) (.seq (.block 5 (.seq (rg 8 [oP 32 (.iaddr 1 t28 t30),oP 33 (.load none t32),oM 8 t33]) (.seq (.seq (rg 39 [oM 34 t1,oM 35 t8,oP 36 (.iaddr 6 t34 t35),oP 37 (.faddr 0 t36),oP 38 (.load none t37),oP 39 (.bi .neq t38 (vI 5))]) (.cond t39 (.seq (rg 6 [oP 6 (.mv vF)]) (.canon [(1000000,some 5,.u8,0),(3000003,none,.u8,0)] [6] .ret)) .skip)) (.reg 0 (some [0,1,2,3,4,5,6,7,8,9,10,11,12,13,14]) [oM 40 t0,oM 41 t0,oP 42 (.nk t41),oP 43 (.faddr 5 t42),oP 44 (.load none t43),oM 45 t1,oM 46 t8,oP 47 (.iaddr 6 t45 t46),oP 48 (.faddr 2 t47),oP 49 (.load none t48),oP 50 (.bslice 9 1 1 [.string ⟨#[]⟩] [(0,t49)]),oP 51 (.append 9 1 16 [.string ⟨#[]⟩] t44 t50),oP 52 (.nk t40),oP 53 (.faddr 5 t52),oN (.store 1 t53 t51)])))) (rg 30 [oP 54 (.bi .add t30 (vI 1)),oM 30 t54]))))))
def zae_b1:IQ:=(.seq (rg 0 [oM 55 t0,oM 56 t1,oM 57 t2,oP 58 (.iaddr 6 t56 t57),oP 59 (.faddr 2 t58),oP 60 (.load none t59),oP 61 (.bslice 9 1 1 [.string ⟨#[]⟩] [(0,t60)]),oP 62 (.nk t55),oP 63 (.faddr 5 t62),oN (.store 1 t63 t61)]) (.seq (rg 6 [oP 6 (.mv vT)]) (.canon [(1000000,some 5,.u8,0),(3000003,none,.u8,0)] [6] .ret)))
def zae_q:IQ:=(.seq (rg 6 [oP 6 (.mv vF)]) (.seq (rg 0 [oM 9 t0,oP 10 (.nk t9),oP 11 (.faddr 6 t10),oN (.store 1 t11 vT)]) (.seq (.seq (rg 16 [oM 12 t1,oM 13 t2,oP 14 (.iaddr 6 t12 t13),oP 15 (.faddr 0 t14),oP 16 (.load none t15)]) (.block 0 (.seq (.block 3 (.block 2 (.seq (.block 1 (.seq (.seq (.seq (rg 17 [oP 18 (.bi .eql t16 (vI 6)),oM 17 t18]) (.cond t17 (.exit 1) .skip)) (.seq (.seq (.seq (rg 19 [oP 20 (.bi .eql t16 (vI 1)),oM 19 t20]) (.cond t19 .skip (rg 19 [oP 21 (.bi .eql t16 (vI 3)),oM 19 t21]))) (.cond t19 (.exit 2) .skip)) (.seq (.seq (rg 22 [oP 23 (.bi .eql t16 (vI 2)),oM 22 t23]) (.cond t22 .skip (.seq (rg 22 [oP 24 (.bi .eql t16 (vI 4)),oM 22 t24]) (.cond t22 .skip (rg 22 [oP 25 (.bi .eql t16 (vI 7)),oM 22 t25]))))) (.cond t22 (.exit 3) .skip)))) (.exit 0))) (.seq (.seq (.seq (rg 30 [oM 26 t1,oM 27 t2,oP 28 (.call 29 [t26,t27]),oP 29 (.len t28),oP 30 (.mv (vI 0))]) (.block 4 (.canon [(1000000,some 5,.u8,0)] [0,1,28,29,30] (.sub 0 zae_b0)))) (.seq (rg 6 [oP 6 (.mv vT)]) (.canon [(1000000,some 5,.u8,0),(3000003,none,.u8,0)] [6] .ret))) (.exit 0))))) (.seq (.seq (rg 6 [oP 6 (.mv vF)]) (.canon [(1000000,some 5,.u8,0),(3000003,none,.u8,0)] [6] .ret)) (.exit 0))))) (.cn [0,1,2] (.sub 1 zae_b1)))))
theorem zae_chk:chk Tryd.prog 84 []=some (zae_q.erase,[.tmp 6],64):=by kernel_rfl
def qEn (x29_ x30_:Int) (v:List Eng.Node) (x28_:List Int) (qHq:List BA):Option ((Int × (List BA)) ⊕ ((Bool × (List BA)) ⊕ ((List BA)))) :=
 bif decide (x30_<x29_) then (
  gd (0≤x30_∧x30_<x28_.length) <|
  gd ((Int.toNat x30_)<x28_.length) <|
  gd (0≤(x28_.getD (Int.toNat x30_) (ET.dft .i64))∧(x28_.getD (Int.toNat x30_) (ET.dft .i64))<v.length) <|
  gd ((Int.toNat (x28_.getD (Int.toNat x30_) (ET.dft .i64)))<v.length) <|
  gd ((Int.toNat (x28_.getD (Int.toNat x30_) (ET.dft .i64)))<v.length) <|
  bif (!decide (((v.getD (Int.toNat (x28_.getD (Int.toNat x30_) (ET.dft .i64))) (ET.dft .node)).kind)=(5:Int))) then (
   some (.inr (.inl (false,qHq))))
  else (
   gd (0≤(x28_.getD (Int.toNat x30_) (ET.dft .i64))∧(x28_.getD (Int.toNat x30_) (ET.dft .i64))<v.length) <|
   gd ((Int.toNat (x28_.getD (Int.toNat x30_) (ET.dft .i64)))<v.length) <|
   gd ((Int.toNat (x28_.getD (Int.toNat x30_) (ET.dft .i64)))<v.length) <|
   gd (qHq.length+([(v.getD (Int.toNat (x28_.getD (Int.toNat x30_) (ET.dft .i64))) (ET.dft .node)).text]:List BA).length≤9223372036854775807∧(qHq.length+([(v.getD (Int.toNat (x28_.getD (Int.toNat x30_) (ET.dft .i64))) (ET.dft .node)).text]:List BA).length)*16≤140737488355328) <|
   gd (qAc (x30_+(1:Int))) <|
   some (.inl ((x30_+(1:Int)),(qHq++[(v.getD (Int.toNat (x28_.getD (Int.toNat x30_) (ET.dft .i64))) (ET.dft .node)).text])))))
 else (
  some (.inr (.inr qHq)))
def zae_p0 (x29_ x30_:Int) (v:List Eng.Node) (x28_:List Int) (qHq:List BA):Option ((Bool × (List BA)) ⊕ ((List BA))) :=
 qBa (fun x:(Int × (List BA))=>qEn x29_ x.1 v x28_ x.2) (x30_,qHq)
def zae_p1 (at_:Int) (v:List Eng.Node):Option (Bool × (List BA)) :=
 gd (0≤at_∧at_<v.length) <|
 gd ((Int.toNat at_)<v.length) <|
 gd ((Int.toNat at_)<v.length) <|
 some (true,[(v.getD (Int.toNat at_) (ET.dft .node)).text])
def zae_s (c:qHc) (v:(List Eng.Node)) (at_:Int):Option (qHc × Bool) :=
 gd (0≤at_∧at_<v.length) <|
 gd ((Int.toNat at_)<v.length) <|
 gd ((Int.toNat at_)<v.length) <|
 bif decide (((v.getD (Int.toNat at_) (ET.dft .node)).kind)=(6:Int)) then (
  (zan_s v at_).bind fun r9 =>
  (zae_p0 (r9.length:Int) (0:Int) v r9 c.aud).bind fun o10=>(Sum.elim (fun (o10_0:Bool × (List BA)) =>
   some ((⟨c.value,c.iss,c.hasIss,c.sub,c.hasSub,o10_0.2,true,c.jti,c.hasJti,c.exp_,c.nbf,c.iat⟩:qHc),o10_0.1)) (fun (o10_1:(List BA)) =>
   some ((⟨c.value,c.iss,c.hasIss,c.sub,c.hasSub,o10_1,true,c.jti,c.hasJti,c.exp_,c.nbf,c.iat⟩:qHc),true))) o10)
 else (
  bif decide (((v.getD (Int.toNat at_) (ET.dft .node)).kind)=(1:Int)) then (
   bif decide (((v.getD (Int.toNat at_) (ET.dft .node)).kind)=(1:Int)) then (
    some ((⟨c.value,c.iss,c.hasIss,c.sub,c.hasSub,c.aud,true,c.jti,c.hasJti,c.exp_,c.nbf,c.iat⟩:qHc),false))
   else (
    bif decide (((v.getD (Int.toNat at_) (ET.dft .node)).kind)=(2:Int)) then (
     bif decide (((v.getD (Int.toNat at_) (ET.dft .node)).kind)=(2:Int)) then (
      some ((⟨c.value,c.iss,c.hasIss,c.sub,c.hasSub,c.aud,true,c.jti,c.hasJti,c.exp_,c.nbf,c.iat⟩:qHc),false))
     else (
      (zae_p1 at_ v).bind fun o11 =>
      some ((⟨c.value,c.iss,c.hasIss,c.sub,c.hasSub,o11.2,true,c.jti,c.hasJti,c.exp_,c.nbf,c.iat⟩:qHc),o11.1)))
    else (
     bif decide (((v.getD (Int.toNat at_) (ET.dft .node)).kind)=(4:Int)) then (
      bif decide (((v.getD (Int.toNat at_) (ET.dft .node)).kind)=(4:Int)) then (
       some ((⟨c.value,c.iss,c.hasIss,c.sub,c.hasSub,c.aud,true,c.jti,c.hasJti,c.exp_,c.nbf,c.iat⟩:qHc),false))
      else (
       (zae_p1 at_ v).bind fun o12 =>
       some ((⟨c.value,c.iss,c.hasIss,c.sub,c.hasSub,o12.2,true,c.jti,c.hasJti,c.exp_,c.nbf,c.iat⟩:qHc),o12.1)))
     else (
      bif decide (((v.getD (Int.toNat at_) (ET.dft .node)).kind)=(7:Int)) then (
       some ((⟨c.value,c.iss,c.hasIss,c.sub,c.hasSub,c.aud,true,c.jti,c.hasJti,c.exp_,c.nbf,c.iat⟩:qHc),false))
      else (
       (zae_p1 at_ v).bind fun o13 =>
       some ((⟨c.value,c.iss,c.hasIss,c.sub,c.hasSub,o13.2,true,c.jti,c.hasJti,c.exp_,c.nbf,c.iat⟩:qHc),o13.1))))))
  else (
   bif decide (((v.getD (Int.toNat at_) (ET.dft .node)).kind)=(3:Int)) then (
    some ((⟨c.value,c.iss,c.hasIss,c.sub,c.hasSub,c.aud,true,c.jti,c.hasJti,c.exp_,c.nbf,c.iat⟩:qHc),false))
   else (
    bif decide (((v.getD (Int.toNat at_) (ET.dft .node)).kind)=(2:Int)) then (
     bif decide (((v.getD (Int.toNat at_) (ET.dft .node)).kind)=(2:Int)) then (
      some ((⟨c.value,c.iss,c.hasIss,c.sub,c.hasSub,c.aud,true,c.jti,c.hasJti,c.exp_,c.nbf,c.iat⟩:qHc),false))
     else (
      (zae_p1 at_ v).bind fun o14 =>
      some ((⟨c.value,c.iss,c.hasIss,c.sub,c.hasSub,o14.2,true,c.jti,c.hasJti,c.exp_,c.nbf,c.iat⟩:qHc),o14.1)))
    else (
     bif decide (((v.getD (Int.toNat at_) (ET.dft .node)).kind)=(4:Int)) then (
      bif decide (((v.getD (Int.toNat at_) (ET.dft .node)).kind)=(4:Int)) then (
       some ((⟨c.value,c.iss,c.hasIss,c.sub,c.hasSub,c.aud,true,c.jti,c.hasJti,c.exp_,c.nbf,c.iat⟩:qHc),false))
      else (
       (zae_p1 at_ v).bind fun o15 =>
       some ((⟨c.value,c.iss,c.hasIss,c.sub,c.hasSub,o15.2,true,c.jti,c.hasJti,c.exp_,c.nbf,c.iat⟩:qHc),o15.1)))
     else (
      bif decide (((v.getD (Int.toNat at_) (ET.dft .node)).kind)=(7:Int)) then (
       some ((⟨c.value,c.iss,c.hasIss,c.sub,c.hasSub,c.aud,true,c.jti,c.hasJti,c.exp_,c.nbf,c.iat⟩:qHc),false))
      else (
       (zae_p1 at_ v).bind fun o16 =>
       some ((⟨c.value,c.iss,c.hasIss,c.sub,c.hasSub,o16.2,true,c.jti,c.hasJti,c.exp_,c.nbf,c.iat⟩:qHc),o16.1)))))))
def zae_G:Nat→Option CQ:=tblQ [(29,zan_w)]
theorem zae_Gok:∀f C,zae_G f=some C→qAg Tryd.prog f C:=qAl ⟨zan_ok,tV⟩
def zae_d0:=(dQS (qAa (dSO 0 (dH 0 0)) (qAa (dSO 1 (dO 1)) (qAa (dSO 28 (dO 4)) (qAa (dSO 29 dZ) (qAa (dSO 30 dZ) dNil))))) (qAa (qAs 51 (qAa (dO 2) (qAa dS (qAa dB (qAa dS (qAa dB (qAa (dO 5) (qAa dB (qAa dS (qAa dB (qAa dB (qAa dZ (qAa dB (qAa dZ (qAa dB (qAa dZ dNil)))))))))))))))) (qAa (qAu .node) (qAa (qAu .node) (qAa dDead (qAa (dRow .i64 3) (qAa (dRow .str 9) dNil)))))))
def zae_l0:SubQ:=mkL zae_d0 (fun x=>zae_p0 x.1.2.2.2.1 x.1.2.2.2.2.1 x.2.2.1 x.2.2.2.2.2.1 x.2.2.2.2.2.2.1) fun x r R kn kx kr=>(Sum.elim (fun (r_0:Bool × (List BA))=>kr ⟨[sL 6 (.vB r_0.1)],[],[.cells 51 [.own 2,.vS x.2.1.2.1,.vB x.2.1.2.2.1,.vS x.2.1.2.2.2.1,.vB x.2.1.2.2.2.2.1,.own 4,.vB x.2.1.2.2.2.2.2.2.1,.vS x.2.1.2.2.2.2.2.2.2.1,.vB x.2.1.2.2.2.2.2.2.2.2.1,.vB x.2.1.2.2.2.2.2.2.2.2.2.1,.vI x.2.1.2.2.2.2.2.2.2.2.2.2.1,.vB x.2.1.2.2.2.2.2.2.2.2.2.2.2.1,.vI x.2.1.2.2.2.2.2.2.2.2.2.2.2.2.1,.vB x.2.1.2.2.2.2.2.2.2.2.2.2.2.2.2.1,.vI x.2.1.2.2.2.2.2.2.2.2.2.2.2.2.2.2.1],.view .node x.2.2.1,.view .node x.2.2.2.1,.dead,.row .str 9 r_0.2]⟩) (fun (r_1:(List BA))=>kx 4 ⟨[sL 0 (.hd 0 0)],[],[.cells 51 [.own 2,.vS x.2.1.2.1,.vB x.2.1.2.2.1,.vS x.2.1.2.2.2.1,.vB x.2.1.2.2.2.2.1,.own 4,.vB x.2.1.2.2.2.2.2.2.1,.vS x.2.1.2.2.2.2.2.2.2.1,.vB x.2.1.2.2.2.2.2.2.2.2.1,.vB x.2.1.2.2.2.2.2.2.2.2.2.1,.vI x.2.1.2.2.2.2.2.2.2.2.2.2.1,.vB x.2.1.2.2.2.2.2.2.2.2.2.2.2.1,.vI x.2.1.2.2.2.2.2.2.2.2.2.2.2.2.1,.vB x.2.1.2.2.2.2.2.2.2.2.2.2.2.2.2.1,.vI x.2.1.2.2.2.2.2.2.2.2.2.2.2.2.2.2.1],.view .node x.2.2.1,.view .node x.2.2.2.1,.dead,.row .str 9 r_1]⟩)) r
def zae_d1:=(dQS (qAa (dSO 0 (dH 0 0)) (qAa (dSO 1 (dO 1)) (qAa (dSO 2 dZ) dNil))) (qAa (qAs 51 (qAa (dO 2) (qAa dS (qAa dB (qAa dS (qAa dB (qAa (dO 3) (qAa dB (qAa dS (qAa dB (qAa dB (qAa dZ (qAa dB (qAa dZ (qAa dB (qAa dZ dNil)))))))))))))))) (qAa (qAu .node) (qAa (qAu .node) (qAa (dRow .str 9) dNil)))))
def zae_l1:SubQ:=mkL zae_d1 (fun x=>zae_p1 x.1.2.2.1 x.2.2.1) fun x r R kn kx kr=>kr ⟨[sL 6 (.vB r.1)],[],[.cells 51 [.own 2,.vS x.2.1.2.1,.vB x.2.1.2.2.1,.vS x.2.1.2.2.2.1,.vB x.2.1.2.2.2.2.1,.own 4,.vB x.2.1.2.2.2.2.2.2.1,.vS x.2.1.2.2.2.2.2.2.2.1,.vB x.2.1.2.2.2.2.2.2.2.2.1,.vB x.2.1.2.2.2.2.2.2.2.2.2.1,.vI x.2.1.2.2.2.2.2.2.2.2.2.2.1,.vB x.2.1.2.2.2.2.2.2.2.2.2.2.2.1,.vI x.2.1.2.2.2.2.2.2.2.2.2.2.2.2.1,.vB x.2.1.2.2.2.2.2.2.2.2.2.2.2.2.2.1,.vI x.2.1.2.2.2.2.2.2.2.2.2.2.2.2.2.2.1],.view .node x.2.2.1,.view .node x.2.2.2.1,.dead,.row .str 9 r.2]⟩
def zae_L:Nat→SubQ:=tblL [(0,zae_l0),(1,zae_l1)]
theorem zae_sub0:qCf zae_L zae_G 4 31 64 0 zae_b0:=qAy (show zae_L 0=zae_l0 from by kernel_rfl) fun x R kn kx kr=>qAw (step:=fun y=>qEn x.1.2.2.2.1 y.1 x.2.2.1 x.2.2.2.2.2.1 y.2) (enc:=fun (y:Int × (List BA))=>zae_d0.e ((x.1.1,x.1.2.1,x.1.2.2.1,x.1.2.2.2.1,y.1,x.1.2.2.2.2.2),(x.2.1,x.2.2.1,x.2.2.2.1,x.2.2.2.2.1,x.2.2.2.2.2.1,y.2,x.2.2.2.2.2.2.2))) (fun y=>by kernel_rfl) (fun y ki=>by simp only [qEn,-eq_self,qAe,qAh,obA,obS,slL,slR,qAd]; kernel_rfl) (x.1.2.2.2.2.1,x.2.2.2.2.2.2.1)
theorem zae_sub1:qCf zae_L zae_G 4 31 64 1 zae_b1:=qAy (show zae_L 1=zae_l1 from by kernel_rfl) fun x R kn kx kr=>by
 simp only [zae_p1,-eq_self,qAe,qAh,obA,obS,slL,slR,qAd]
 kernel_rfl
theorem zae_subs:qAp zae_L zae_G 4 31 64 zae_q:=qAm (show qAt zae_L zae_G 4 31 64 [(0,zae_b0),(1,zae_b1)] from ⟨zae_sub0,zae_sub1,tV⟩)
def zae_da:=(qAa (dVC (dCO (dH 0 0))) (qAa (dVC (dCO (dO 1))) (qAa (dVC (dCO dZ)) dNil)))
def zae_db:=(qAa (qAs 51 (qAa (dO 2) (qAa dS (qAa dB (qAa dS (qAa dB (qAa (dO 3) (qAa dB (qAa dS (qAa dB (qAa dB (qAa dZ (qAa dB (qAa dZ (qAa dB (qAa dZ dNil)))))))))))))))) (qAa (qAu .node) (qAa (qAu .node) (qAa (dRow .str 9) dNil))))
def zae_c:CS:=mkC zae_da zae_db (fun x y=>zae_s (⟨y.2.2.1,y.1.2.1,y.1.2.2.1,y.1.2.2.2.1,y.1.2.2.2.2.1,y.2.2.2.1,y.1.2.2.2.2.2.2.1,y.1.2.2.2.2.2.2.2.1,y.1.2.2.2.2.2.2.2.2.1,(⟨y.1.2.2.2.2.2.2.2.2.2.1,y.1.2.2.2.2.2.2.2.2.2.2.1⟩:qHf),(⟨y.1.2.2.2.2.2.2.2.2.2.2.2.1,y.1.2.2.2.2.2.2.2.2.2.2.2.2.1⟩:qHf),(⟨y.1.2.2.2.2.2.2.2.2.2.2.2.2.2.1,y.1.2.2.2.2.2.2.2.2.2.2.2.2.2.2.1⟩:qHf)⟩:qHc) y.2.1 x.2.2.1) (fun x y r=>.c (.o (.vB r.2))) fun x y r=>[.cells 51 [.own 2,.vS r.1.iss,.vB r.1.hasIss,.vS r.1.sub,.vB r.1.hasSub,.own 4,.vB r.1.hasAud,.vS r.1.jti,.vB r.1.hasJti,.vB r.1.exp_.has,.vI r.1.exp_.at_,.vB r.1.nbf.has,.vI r.1.nbf.at_,.vB r.1.iat.has,.vI r.1.iat.at_],.view .node y.2.1,.view .node y.2.2.1,.dead,.row .str 9 r.1.aud]
theorem zae_val:qAn Tryd.prog 84 zae_c:=qAo zae_chk 31 zae_Gok 4 (fun x=>Nat.le_of_ble_eq_true rfl) (fun y=>rfl) zae_subs fun x y=>by
 simp only [zae_s,-eq_self,qAe,qAh,obA,obS,slL,slR,qAd]
 kernel_rfl
def zae_w:CQ:=qCa [(0,some 0,some (.node,46)),(0,some 5,some (.str,9)),(1,none,some (.node,46))] (qDs [true,false,false,true] zae_c)
theorem zae_ok:qAg Tryd.prog 84 zae_w:=qAz zae_val
def zag_q:IQ:=(.seq (rg 6 [oP 6 (.mv vF)]) (.seq (rg 0 [oM 11 t1,oM 12 t2,oP 13 (.iaddr 6 t11 t12),oP 14 (.load (some 6) t13),oP 7 (.alloc 46 [.int .i64 0,.string ⟨#[]⟩,.string ⟨#[]⟩,.bool false,.int .i64 0,.int .i64 0]),oN (.store 6 t7 t14)]) (.seq (rg 8 [oP 8 (.mv (.v (.pointer none)))]) (.seq (rg 9 [oP 9 (.mv (.v (.pointer none)))]) (.seq (rg 10 [oP 10 (.mv (.v (.pointer none)))]) (.seq (.seq (rg 16 [oP 15 (.faddr 1 t7),oP 16 (.load none t15)]) (.block 0 (.seq (rg 17 [oP 18 (.bi .eql t16 (.v (.string ⟨#[105,115,115]⟩))),oM 17 t18]) (.cond t17 (.reg 9 (some [0,1,2,3,4,5,6,7]) [oM 19 t0,oP 20 (.nk t19),oP 21 (.faddr 1 t20),oM 22 t0,oP 23 (.nk t22),oP 24 (.faddr 2 t23),oM 8 t21,oM 9 t24]) (.seq (rg 25 [oP 26 (.bi .eql t16 (.v (.string ⟨#[115,117,98]⟩))),oM 25 t26]) (.cond t25 (.reg 9 (some [0,1,2,3,4,5,6,7]) [oM 27 t0,oP 28 (.nk t27),oP 29 (.faddr 3 t28),oM 30 t0,oP 31 (.nk t30),oP 32 (.faddr 4 t31),oM 8 t29,oM 9 t32]) (.seq (rg 33 [oP 34 (.bi .eql t16 (.v (.string ⟨#[106,116,105]⟩))),oM 33 t34]) (.cond t33 (.reg 9 (some [0,1,2,3,4,5,6,7]) [oM 35 t0,oP 36 (.nk t35),oP 37 (.faddr 7 t36),oM 38 t0,oP 39 (.nk t38),oP 40 (.faddr 8 t39),oM 8 t37,oM 9 t40]) (.seq (rg 41 [oP 42 (.bi .eql t16 (.v (.string ⟨#[101,120,112]⟩))),oM 41 t42]) (.cond t41 (rg 10 [oM 43 t0,oP 44 (.nk t43),oP 45 (.faddr 9 t44),oM 10 t45]) (.seq (rg 46 [oP 47 (.bi .eql t16 (.v (.string ⟨#[110,98,102]⟩))),oM 46 t47]) (.cond t46 (rg 10 [oM 48 t0,oP 49 (.nk t48),oP 50 (.faddr 11 t49),oM 10 t50]) (.seq (rg 51 [oP 52 (.bi .eql t16 (.v (.string ⟨#[105,97,116]⟩))),oM 51 t52]) (.cond t51 (rg 10 [oM 53 t0,oP 54 (.nk t53),oP 55 (.faddr 13 t54),oM 10 t55]) .skip)))))))))))))) (.seq (.block 1 (.seq (rg 56 [oM 57 t8,oP 58 (.ext (.ptrEq true) [t57,(.v (.pointer none))]),oM 56 t58]) (.cond t56 (.seq (rg 0 [oM 59 t8,oM 60 t9,oP 61 (.faddr 2 t7),oP 62 (.load none t61),oP 63 (.nk t59),oN (.store 1 t63 t62),oP 64 (.nk t60),oN (.store 1 t64 vT)]) (.seq (rg 6 [oP 65 (.faddr 0 t7),oP 66 (.load none t65),oP 67 (.bi .eql t66 (vI 5)),oM 6 t67]) (.canon [(1000000,some 5,.u8,0),(3000003,none,.u8,0)] [6] .ret))) (.seq (rg 68 [oM 69 t10,oP 70 (.ext (.ptrEq true) [t69,(.v (.pointer none))]),oM 68 t70]) (.cond t68 (.seq (rg 0 [oM 71 t10,oP 72 (.faddr 4 t7),oP 73 (.load none t72),oP 74 (.build [.bool false,.int .i64 0] [(0,1,vT),(1,1,t73)]),oP 75 (.nk t71),oN (.store 2 t75 t74)]) (.seq (rg 6 [oP 76 (.faddr 0 t7),oP 77 (.load none t76),oP 78 (.bi .eql t77 (vI 4)),oM 79 t78,oF 80 (.faddr 3 t7) 79,oF 81 (.load none t80) 79,oP 82 (.pick t79 t81 vF),oM 6 t82]) (.canon [(1000000,some 5,.u8,0),(3000003,none,.u8,0)] [6] .ret))) (.seq (rg 83 [oP 84 (.faddr 1 t7),oP 85 (.load none t84),oP 86 (.bi .eql t85 (.v (.string ⟨#[97,117,100]⟩))),oM 83 t86]) (.cond t83 (.seq (rg 6 [oM 87 t0,oM 88 t1,oM 89 t2,oP 90 (.call 84 [t87,t88,t89]),oM 6 t90]) (.canon [(1000000,some 5,.u8,0),(3000003,none,.u8,0)] [6] .ret)) .skip))))))) (.seq (rg 6 [oP 6 (.mv vT)]) (.canon [(1000000,some 5,.u8,0),(3000003,none,.u8,0)] [6] .ret)))))))))
theorem zag_chk:chk Tryd.prog 57 []=some (zag_q.erase,[.tmp 6],91):=by kernel_rfl
def zag_s (c:qHc) (v:(List Eng.Node)) (at_:Int):Option (qHc × Bool) :=
 gd (0≤at_∧at_<v.length) <|
 gd ((Int.toNat at_)<v.length) <|
 bif decide (((v.getD (Int.toNat at_) (ET.dft .node)).key)=(⟨#[105,115,115]⟩:BA)) then (
  some ((⟨c.value,(v.getD (Int.toNat at_) (ET.dft .node)).text,true,c.sub,c.hasSub,c.aud,c.hasAud,c.jti,c.hasJti,c.exp_,c.nbf,c.iat⟩:qHc),decide (((v.getD (Int.toNat at_) (ET.dft .node)).kind)=(5:Int))))
 else (
  bif decide (((v.getD (Int.toNat at_) (ET.dft .node)).key)=(⟨#[115,117,98]⟩:BA)) then (
   some ((⟨c.value,c.iss,c.hasIss,(v.getD (Int.toNat at_) (ET.dft .node)).text,true,c.aud,c.hasAud,c.jti,c.hasJti,c.exp_,c.nbf,c.iat⟩:qHc),decide (((v.getD (Int.toNat at_) (ET.dft .node)).kind)=(5:Int))))
  else (
   bif decide (((v.getD (Int.toNat at_) (ET.dft .node)).key)=(⟨#[106,116,105]⟩:BA)) then (
    some ((⟨c.value,c.iss,c.hasIss,c.sub,c.hasSub,c.aud,c.hasAud,(v.getD (Int.toNat at_) (ET.dft .node)).text,true,c.exp_,c.nbf,c.iat⟩:qHc),decide (((v.getD (Int.toNat at_) (ET.dft .node)).kind)=(5:Int))))
   else (
    bif decide (((v.getD (Int.toNat at_) (ET.dft .node)).key)=(⟨#[101,120,112]⟩:BA)) then (
     some ((⟨c.value,c.iss,c.hasIss,c.sub,c.hasSub,c.aud,c.hasAud,c.jti,c.hasJti,(⟨true,(v.getD (Int.toNat at_) (ET.dft .node)).int⟩:qHf),c.nbf,c.iat⟩:qHc),((decide (((v.getD (Int.toNat at_) (ET.dft .node)).kind)=(4:Int))) && ((v.getD (Int.toNat at_) (ET.dft .node)).whole))))
    else (
     bif decide (((v.getD (Int.toNat at_) (ET.dft .node)).key)=(⟨#[110,98,102]⟩:BA)) then (
      some ((⟨c.value,c.iss,c.hasIss,c.sub,c.hasSub,c.aud,c.hasAud,c.jti,c.hasJti,c.exp_,(⟨true,(v.getD (Int.toNat at_) (ET.dft .node)).int⟩:qHf),c.iat⟩:qHc),((decide (((v.getD (Int.toNat at_) (ET.dft .node)).kind)=(4:Int))) && ((v.getD (Int.toNat at_) (ET.dft .node)).whole))))
     else (
      bif decide (((v.getD (Int.toNat at_) (ET.dft .node)).key)=(⟨#[105,97,116]⟩:BA)) then (
       some ((⟨c.value,c.iss,c.hasIss,c.sub,c.hasSub,c.aud,c.hasAud,c.jti,c.hasJti,c.exp_,c.nbf,(⟨true,(v.getD (Int.toNat at_) (ET.dft .node)).int⟩:qHf)⟩:qHc),((decide (((v.getD (Int.toNat at_) (ET.dft .node)).kind)=(4:Int))) && ((v.getD (Int.toNat at_) (ET.dft .node)).whole))))
      else (
       bif decide (((v.getD (Int.toNat at_) (ET.dft .node)).key)=(⟨#[97,117,100]⟩:BA)) then (
        (zae_s c v at_).bind fun r2 =>
        some ((⟨c.value,r2.1.iss,r2.1.hasIss,r2.1.sub,r2.1.hasSub,r2.1.aud,r2.1.hasAud,r2.1.jti,r2.1.hasJti,r2.1.exp_,r2.1.nbf,r2.1.iat⟩:qHc),r2.2))
       else (
        some (c,true))))))))
def zag_G:Nat→Option CQ:=tblQ [(84,zae_w)]
theorem zag_Gok:∀f C,zag_G f=some C→qAg Tryd.prog f C:=qAl ⟨zae_ok,tV⟩
def zag_L:Nat→SubQ:=tblL []
theorem zag_subs:qAp zag_L zag_G 4 17 91 zag_q:=qAm (show qAt zag_L zag_G 4 17 91 [] from tV)
def zag_da:=(qAa (dVC (dCO (dH 0 0))) (qAa (dVC (dCO (dO 1))) (qAa (dVC (dCO dZ)) dNil)))
def zag_db:=(qAa (qAs 51 (qAa (dO 2) (qAa dS (qAa dB (qAa dS (qAa dB (qAa (dO 3) (qAa dB (qAa dS (qAa dB (qAa dB (qAa dZ (qAa dB (qAa dZ (qAa dB (qAa dZ dNil)))))))))))))))) (qAa (qAu .node) (qAa (qAu .node) (qAa (dRow .str 9) dNil))))
def zag_c:CS:=mkC zag_da zag_db (fun x y=>zag_s (⟨y.2.2.1,y.1.2.1,y.1.2.2.1,y.1.2.2.2.1,y.1.2.2.2.2.1,y.2.2.2.1,y.1.2.2.2.2.2.2.1,y.1.2.2.2.2.2.2.2.1,y.1.2.2.2.2.2.2.2.2.1,(⟨y.1.2.2.2.2.2.2.2.2.2.1,y.1.2.2.2.2.2.2.2.2.2.2.1⟩:qHf),(⟨y.1.2.2.2.2.2.2.2.2.2.2.2.1,y.1.2.2.2.2.2.2.2.2.2.2.2.2.1⟩:qHf),(⟨y.1.2.2.2.2.2.2.2.2.2.2.2.2.2.1,y.1.2.2.2.2.2.2.2.2.2.2.2.2.2.2.1⟩:qHf)⟩:qHc) y.2.1 x.2.2.1) (fun x y r=>.c (.o (.vB r.2))) fun x y r=>[.cells 51 [.own 2,.vS r.1.iss,.vB r.1.hasIss,.vS r.1.sub,.vB r.1.hasSub,.own 4,.vB r.1.hasAud,.vS r.1.jti,.vB r.1.hasJti,.vB r.1.exp_.has,.vI r.1.exp_.at_,.vB r.1.nbf.has,.vI r.1.nbf.at_,.vB r.1.iat.has,.vI r.1.iat.at_],.view .node y.2.1,.view .node y.2.2.1,.dead,.row .str 9 r.1.aud]
theorem zag_val:qAn Tryd.prog 57 zag_c:=qAo zag_chk 17 zag_Gok 4 (fun x=>Nat.le_of_ble_eq_true rfl) (fun y=>rfl) zag_subs fun x y=>by
 simp only [zag_s,-eq_self,qAe,qAh,obA,obS,slL,slR,qAd]
 kernel_rfl
def zag_w:CQ:=qCa [(0,some 0,some (.node,46)),(0,some 5,some (.str,9)),(1,none,some (.node,46))] (qDs [true,false,false,true] zag_c)
theorem zag_ok:qAg Tryd.prog 57 zag_w:=qAz zag_val
def zad_b0:IQ:=(.loop [2,4,7,27,28,29] (.seq (rg 30 [oP 30 (.bi .lss t29 t28)]) (.seq (.cond t30 .skip (.cn [2,4,7] (.exit 0))) (.seq (.block 1 (.seq (rg 9 [oP 31 (.iaddr 1 t27 t29),oP 32 (.load none t31),oM 9 t32]) (.seq (rg 36 [oM 33 t4,oM 34 t9,oP 35 (.call 57 [t7,t33,t34]),oP 36 (.un .not t35)]) (.cond t36 (.seq (rg 3 [oP 37 (.build [.slice none 0 0,.string ⟨#[]⟩,.bool false,.string ⟨#[]⟩,.bool false,.slice none 0 0,.bool false,.string ⟨#[]⟩,.bool false,.bool false,.int .i64 0,.bool false,.int .i64 0,.bool false,.int .i64 0] []),oN (.store 15 t2 t37),oP 3 (.mv (vI 131))]) (.canon [(2,some 0,.node,46),(2,some 5,.str,9)] [2,3] .ret)) .skip)))) (rg 29 [oP 38 (.bi .add t29 (vI 1)),oM 29 t38])))))
def zad_q:IQ:=(.seq (rg 3 [oP 2 (.alloc 51 [.slice none 0 0,.string ⟨#[]⟩,.bool false,.string ⟨#[]⟩,.bool false,.slice none 0 0,.bool false,.string ⟨#[]⟩,.bool false,.bool false,.int .i64 0,.bool false,.int .i64 0,.bool false,.int .i64 0]),oP 3 (.mv (vI 0))]) (.seq (rg 6 [oM 11 t0,oP 12 (.call 20 [t11]),oM 10 t12,oP 13 (.extract t10 0),oP 14 (.extract t10 1),oP 15 (.extract t10 2),oM 4 t13,oM 5 t14,oM 6 t15]) (.seq (.seq (rg 17 [oM 16 t5,oP 17 (.bi .neq t16 (vI 0))]) (.cond t17 (.seq (rg 3 [oP 18 (.build [.slice none 0 0,.string ⟨#[]⟩,.bool false,.string ⟨#[]⟩,.bool false,.slice none 0 0,.bool false,.string ⟨#[]⟩,.bool false,.bool false,.int .i64 0,.bool false,.int .i64 0,.bool false,.int .i64 0] []),oM 19 t5,oN (.store 15 t2 t18),oM 3 t19]) (.canon [(2,some 0,.node,46),(2,some 5,.str,9)] [2,3] .ret)) .skip)) (.seq (.seq (rg 24 [oM 20 t4,oP 21 (.iaddr 6 t20 (vI 0)),oP 22 (.faddr 0 t21),oP 23 (.load none t22),oP 24 (.bi .neq t23 (vI 7))]) (.cond t24 (.seq (rg 3 [oP 25 (.build [.slice none 0 0,.string ⟨#[]⟩,.bool false,.string ⟨#[]⟩,.bool false,.slice none 0 0,.bool false,.string ⟨#[]⟩,.bool false,.bool false,.int .i64 0,.bool false,.int .i64 0,.bool false,.int .i64 0] []),oN (.store 15 t2 t25),oP 3 (.mv (vI 130))]) (.canon [(2,some 0,.node,46),(2,some 5,.str,9)] [2,3] .ret)) .skip)) (.seq (rg 7 [oP 7 (.alloc 51 [.slice none 0 0,.string ⟨#[]⟩,.bool false,.string ⟨#[]⟩,.bool false,.slice none 0 0,.bool false,.string ⟨#[]⟩,.bool false,.bool false,.int .i64 0,.bool false,.int .i64 0,.bool false,.int .i64 0])]) (.seq (.seq (rg 29 [oM 26 t4,oP 27 (.call 29 [t26,(vI 0)]),oP 28 (.len t27),oP 29 (.mv (vI 0))]) (.block 0 (.canon [(7,some 0,.node,46),(7,some 5,.str,9)] [2,4,7,27,28,29] (.sub 0 zad_b0)))) (.seq (rg 0 [oM 39 t4,oP 40 (.faddr 0 t7),oN (.store 1 t40 t39)]) (.seq (rg 3 [oP 41 (.load (some 15) t7),oN (.store 15 t2 t41),oP 3 (.mv (vI 0))]) (.canon [(2,some 0,.node,46),(2,some 5,.str,9)] [2,3] .ret)))))))))
theorem zad_chk:chk Tryd.prog 23 []=some (zad_q.erase,[.cell 2 (some 15),.tmp 3],42):=by kernel_rfl
def qEk (x28_ x29_:Int) (v:List Eng.Node) (qH7:BA) (qHu:Bool) (qH8:BA) (qHv qHw:Bool) (qH9:BA) (qHx qHr:Bool) (qHy:Int) (qHl:Bool) (qHo:Int) (qHm:Bool) (qHp:Int) (x27_:List Int) (qH3:List Eng.Node) (qHq:List BA):Option ((Int × BA × Bool × BA × Bool × Bool × BA × Bool × Bool × Int × Bool × Int × Bool × Int × (List BA)) ⊕ ((Int × BA × Bool × BA × Bool × Bool × BA × Bool × Bool × Int × Bool × Int × Bool × Int × (List Eng.Node) × (List BA)) ⊕ (BA × Bool × BA × Bool × Bool × BA × Bool × Bool × Int × Bool × Int × Bool × Int × (List BA)))) :=
 bif decide (x29_<x28_) then (
  gd (0≤x29_∧x29_<x27_.length) <|
  gd ((Int.toNat x29_)<x27_.length) <|
  (zag_s (⟨qH3,qH7,qHu,qH8,qHv,qHq,qHw,qH9,qHx,(⟨qHr,qHy⟩:qHf),(⟨qHl,qHo⟩:qHf),(⟨qHm,qHp⟩:qHf)⟩:qHc) v (x27_.getD (Int.toNat x29_) (ET.dft .i64))).bind fun r54 =>
  bif (!r54.2) then (
   some (.inr (.inl ((131:Int),(⟨#[]⟩:BA),false,(⟨#[]⟩:BA),false,false,(⟨#[]⟩:BA),false,false,(0:Int),false,(0:Int),false,(0:Int),[],[]))))
  else (
   gd (qAc (x29_+(1:Int))) <|
   some (.inl ((x29_+(1:Int)),r54.1.iss,r54.1.hasIss,r54.1.sub,r54.1.hasSub,r54.1.hasAud,r54.1.jti,r54.1.hasJti,r54.1.exp_.has,r54.1.exp_.at_,r54.1.nbf.has,r54.1.nbf.at_,r54.1.iat.has,r54.1.iat.at_,r54.1.aud))))
 else (
  some (.inr (.inr (qH7,qHu,qH8,qHv,qHw,qH9,qHx,qHr,qHy,qHl,qHo,qHm,qHp,qHq))))
def zad_p0 (x28_ x29_:Int) (v:List Eng.Node) (qH7:BA) (qHu:Bool) (qH8:BA) (qHv qHw:Bool) (qH9:BA) (qHx qHr:Bool) (qHy:Int) (qHl:Bool) (qHo:Int) (qHm:Bool) (qHp:Int) (x27_:List Int) (qH3:List Eng.Node) (qHq:List BA):Option ((Int × BA × Bool × BA × Bool × Bool × BA × Bool × Bool × Int × Bool × Int × Bool × Int × (List Eng.Node) × (List BA)) ⊕ (BA × Bool × BA × Bool × Bool × BA × Bool × Bool × Int × Bool × Int × Bool × Int × (List BA))) :=
 qBa (fun x:(Int × BA × Bool × BA × Bool × Bool × BA × Bool × Bool × Int × Bool × Int × Bool × Int × (List BA))=>qEk x28_ x.1 v x.2.1 x.2.2.1 x.2.2.2.1 x.2.2.2.2.1 x.2.2.2.2.2.1 x.2.2.2.2.2.2.1 x.2.2.2.2.2.2.2.1 x.2.2.2.2.2.2.2.2.1 x.2.2.2.2.2.2.2.2.2.1 x.2.2.2.2.2.2.2.2.2.2.1 x.2.2.2.2.2.2.2.2.2.2.2.1 x.2.2.2.2.2.2.2.2.2.2.2.2.1 x.2.2.2.2.2.2.2.2.2.2.2.2.2.1 x27_ qH3 x.2.2.2.2.2.2.2.2.2.2.2.2.2.2) (x29_,qH7,qHu,qH8,qHv,qHw,qH9,qHx,qHr,qHy,qHl,qHo,qHm,qHp,qHq)
def zad_s (payload:BA):Option (qHc × Int) :=
 (zap_s payload).bind fun r52 =>
 bif (!decide (r52.2.1=(0:Int))) then (
  some ((⟨[],(⟨#[]⟩:BA),false,(⟨#[]⟩:BA),false,[],false,(⟨#[]⟩:BA),false,(⟨false,(0:Int)⟩:qHf),(⟨false,(0:Int)⟩:qHf),(⟨false,(0:Int)⟩:qHf)⟩:qHc),r52.2.1))
 else (
  gd (0≤(0:Int)∧(0:Int)<r52.1.length) <|
  gd ((Int.toNat (0:Int))<r52.1.length) <|
  gd ((Int.toNat (0:Int))<r52.1.length) <|
  bif (!decide (((r52.1.getD (Int.toNat (0:Int)) (ET.dft .node)).kind)=(7:Int))) then (
   some ((⟨[],(⟨#[]⟩:BA),false,(⟨#[]⟩:BA),false,[],false,(⟨#[]⟩:BA),false,(⟨false,(0:Int)⟩:qHf),(⟨false,(0:Int)⟩:qHf),(⟨false,(0:Int)⟩:qHf)⟩:qHc),(130:Int)))
  else (
   (zan_s r52.1 (0:Int)).bind fun r53 =>
   (zad_p0 (r53.length:Int) (0:Int) r52.1 (⟨#[]⟩:BA) false (⟨#[]⟩:BA) false false (⟨#[]⟩:BA) false false (0:Int) false (0:Int) false (0:Int) r53 [] []).bind fun o55=>(Sum.elim (fun (o55_0:Int × BA × Bool × BA × Bool × Bool × BA × Bool × Bool × Int × Bool × Int × Bool × Int × (List Eng.Node) × (List BA)) =>
    some ((⟨o55_0.2.2.2.2.2.2.2.2.2.2.2.2.2.2.1,o55_0.2.1,o55_0.2.2.1,o55_0.2.2.2.1,o55_0.2.2.2.2.1,o55_0.2.2.2.2.2.2.2.2.2.2.2.2.2.2.2,o55_0.2.2.2.2.2.1,o55_0.2.2.2.2.2.2.1,o55_0.2.2.2.2.2.2.2.1,(⟨o55_0.2.2.2.2.2.2.2.2.1,o55_0.2.2.2.2.2.2.2.2.2.1⟩:qHf),(⟨o55_0.2.2.2.2.2.2.2.2.2.2.1,o55_0.2.2.2.2.2.2.2.2.2.2.2.1⟩:qHf),(⟨o55_0.2.2.2.2.2.2.2.2.2.2.2.2.1,o55_0.2.2.2.2.2.2.2.2.2.2.2.2.2.1⟩:qHf)⟩:qHc),o55_0.1)) (fun (o55_1:BA × Bool × BA × Bool × Bool × BA × Bool × Bool × Int × Bool × Int × Bool × Int × (List BA)) =>
    some ((⟨r52.1,o55_1.1,o55_1.2.1,o55_1.2.2.1,o55_1.2.2.2.1,o55_1.2.2.2.2.2.2.2.2.2.2.2.2.2,o55_1.2.2.2.2.1,o55_1.2.2.2.2.2.1,o55_1.2.2.2.2.2.2.1,(⟨o55_1.2.2.2.2.2.2.2.1,o55_1.2.2.2.2.2.2.2.2.1⟩:qHf),(⟨o55_1.2.2.2.2.2.2.2.2.2.1,o55_1.2.2.2.2.2.2.2.2.2.2.1⟩:qHf),(⟨o55_1.2.2.2.2.2.2.2.2.2.2.2.1,o55_1.2.2.2.2.2.2.2.2.2.2.2.2.1⟩:qHf)⟩:qHc),(0:Int)))) o55))
def zad_G:Nat→Option CQ:=tblQ [(20,zap_w),(29,zan_w),(57,zag_w)]
theorem zad_Gok:∀f C,zad_G f=some C→qAg Tryd.prog f C:=qAl ⟨zap_ok,zan_ok,zag_ok,tV⟩
def zad_d0:=(dQS (qAa (dSO 2 (dH 0 0)) (qAa (dSO 4 (dO 1)) (qAa (dSO 7 (dH 2 0)) (qAa (dSO 27 (dO 3)) (qAa (dSO 28 dZ) (qAa (dSO 29 dZ) dNil)))))) (qAa (qAs 51 (qAa dNS (qAa dS (qAa dB (qAa dS (qAa dB (qAa dNS (qAa dB (qAa dS (qAa dB (qAa dB (qAa dZ (qAa dB (qAa dZ (qAa dB (qAa dZ dNil)))))))))))))))) (qAa (dRow .node 46) (qAa (qAs 51 (qAa (dO 4) (qAa dS (qAa dB (qAa dS (qAa dB (qAa (dO 5) (qAa dB (qAa dS (qAa dB (qAa dB (qAa dZ (qAa dB (qAa dZ (qAa dB (qAa dZ dNil)))))))))))))))) (qAa (dRow .i64 3) (qAa (dRow .node 46) (qAa (dRow .str 9) dNil)))))))
def zad_l0:SubQ:=mkL zad_d0 (fun x=>zad_p0 x.1.2.2.2.2.1 x.1.2.2.2.2.2.1 x.2.2.1 x.2.2.2.1.2.1 x.2.2.2.1.2.2.1 x.2.2.2.1.2.2.2.1 x.2.2.2.1.2.2.2.2.1 x.2.2.2.1.2.2.2.2.2.2.1 x.2.2.2.1.2.2.2.2.2.2.2.1 x.2.2.2.1.2.2.2.2.2.2.2.2.1 x.2.2.2.1.2.2.2.2.2.2.2.2.2.1 x.2.2.2.1.2.2.2.2.2.2.2.2.2.2.1 x.2.2.2.1.2.2.2.2.2.2.2.2.2.2.2.1 x.2.2.2.1.2.2.2.2.2.2.2.2.2.2.2.2.1 x.2.2.2.1.2.2.2.2.2.2.2.2.2.2.2.2.2.1 x.2.2.2.1.2.2.2.2.2.2.2.2.2.2.2.2.2.2.1 x.2.2.2.2.1 x.2.2.2.2.2.1 x.2.2.2.2.2.2.1) fun x r R kn kx kr=>(Sum.elim (fun (r_0:Int × BA × Bool × BA × Bool × Bool × BA × Bool × Bool × Int × Bool × Int × Bool × Int × (List Eng.Node) × (List BA))=>kr ⟨[sL 2 (.hd 0 0),sL 3 (.vI r_0.1)],[],[.cells 51 [.own 1,.vS r_0.2.1,.vB r_0.2.2.1,.vS r_0.2.2.2.1,.vB r_0.2.2.2.2.1,.own 2,.vB r_0.2.2.2.2.2.1,.vS r_0.2.2.2.2.2.2.1,.vB r_0.2.2.2.2.2.2.2.1,.vB r_0.2.2.2.2.2.2.2.2.1,.vI r_0.2.2.2.2.2.2.2.2.2.1,.vB r_0.2.2.2.2.2.2.2.2.2.2.1,.vI r_0.2.2.2.2.2.2.2.2.2.2.2.1,.vB r_0.2.2.2.2.2.2.2.2.2.2.2.2.1,.vI r_0.2.2.2.2.2.2.2.2.2.2.2.2.2.1],.row .node 46 r_0.2.2.2.2.2.2.2.2.2.2.2.2.2.2.1,.row .str 9 r_0.2.2.2.2.2.2.2.2.2.2.2.2.2.2.2]⟩) (fun (r_1:BA × Bool × BA × Bool × Bool × BA × Bool × Bool × Int × Bool × Int × Bool × Int × (List BA))=>kx 0 ⟨[sL 2 (.hd 0 0),sL 4 (.own 1),sL 7 (.hd 2 0)],[],[.cells 51 [.val (.slice none 0 0),.vS x.2.1.2.1,.vB x.2.1.2.2.1,.vS x.2.1.2.2.2.1,.vB x.2.1.2.2.2.2.1,.val (.slice none 0 0),.vB x.2.1.2.2.2.2.2.2.1,.vS x.2.1.2.2.2.2.2.2.2.1,.vB x.2.1.2.2.2.2.2.2.2.2.1,.vB x.2.1.2.2.2.2.2.2.2.2.2.1,.vI x.2.1.2.2.2.2.2.2.2.2.2.2.1,.vB x.2.1.2.2.2.2.2.2.2.2.2.2.2.1,.vI x.2.1.2.2.2.2.2.2.2.2.2.2.2.2.1,.vB x.2.1.2.2.2.2.2.2.2.2.2.2.2.2.2.1,.vI x.2.1.2.2.2.2.2.2.2.2.2.2.2.2.2.2.1],.row .node 46 x.2.2.1,.cells 51 [.own 3,.vS r_1.1,.vB r_1.2.1,.vS r_1.2.2.1,.vB r_1.2.2.2.1,.own 4,.vB r_1.2.2.2.2.1,.vS r_1.2.2.2.2.2.1,.vB r_1.2.2.2.2.2.2.1,.vB r_1.2.2.2.2.2.2.2.1,.vI r_1.2.2.2.2.2.2.2.2.1,.vB r_1.2.2.2.2.2.2.2.2.2.1,.vI r_1.2.2.2.2.2.2.2.2.2.2.1,.vB r_1.2.2.2.2.2.2.2.2.2.2.2.1,.vI r_1.2.2.2.2.2.2.2.2.2.2.2.2.1],.row .node 46 x.2.2.2.2.2.1,.row .str 9 r_1.2.2.2.2.2.2.2.2.2.2.2.2.2]⟩)) r
def zad_L:Nat→SubQ:=tblL [(0,zad_l0)]
theorem zad_sub0:qCf zad_L zad_G 0 30 42 0 zad_b0:=qAy (show zad_L 0=zad_l0 from by kernel_rfl) fun x R kn kx kr=>qAw (step:=fun y=>qEk x.1.2.2.2.2.1 y.1 x.2.2.1 y.2.1 y.2.2.1 y.2.2.2.1 y.2.2.2.2.1 y.2.2.2.2.2.1 y.2.2.2.2.2.2.1 y.2.2.2.2.2.2.2.1 y.2.2.2.2.2.2.2.2.1 y.2.2.2.2.2.2.2.2.2.1 y.2.2.2.2.2.2.2.2.2.2.1 y.2.2.2.2.2.2.2.2.2.2.2.1 y.2.2.2.2.2.2.2.2.2.2.2.2.1 y.2.2.2.2.2.2.2.2.2.2.2.2.2.1 x.2.2.2.2.1 x.2.2.2.2.2.1 y.2.2.2.2.2.2.2.2.2.2.2.2.2.2) (enc:=fun (y:Int × BA × Bool × BA × Bool × Bool × BA × Bool × Bool × Int × Bool × Int × Bool × Int × (List BA))=>zad_d0.e ((x.1.1,x.1.2.1,x.1.2.2.1,x.1.2.2.2.1,x.1.2.2.2.2.1,y.1,x.1.2.2.2.2.2.2),(x.2.1,x.2.2.1,(x.2.2.2.1.1,y.2.1,y.2.2.1,y.2.2.2.1,y.2.2.2.2.1,x.2.2.2.1.2.2.2.2.2.1,y.2.2.2.2.2.1,y.2.2.2.2.2.2.1,y.2.2.2.2.2.2.2.1,y.2.2.2.2.2.2.2.2.1,y.2.2.2.2.2.2.2.2.2.1,y.2.2.2.2.2.2.2.2.2.2.1,y.2.2.2.2.2.2.2.2.2.2.2.1,y.2.2.2.2.2.2.2.2.2.2.2.2.1,y.2.2.2.2.2.2.2.2.2.2.2.2.2.1,x.2.2.2.1.2.2.2.2.2.2.2.2.2.2.2.2.2.2.2),x.2.2.2.2.1,x.2.2.2.2.2.1,y.2.2.2.2.2.2.2.2.2.2.2.2.2.2,x.2.2.2.2.2.2.2))) (fun y=>by kernel_rfl) (fun y ki=>by simp only [qEk,-eq_self,qAe,qAh,obA,obS,slL,slR,qAd]; kernel_rfl) (x.1.2.2.2.2.2.1,x.2.2.2.1.2.1,x.2.2.2.1.2.2.1,x.2.2.2.1.2.2.2.1,x.2.2.2.1.2.2.2.2.1,x.2.2.2.1.2.2.2.2.2.2.1,x.2.2.2.1.2.2.2.2.2.2.2.1,x.2.2.2.1.2.2.2.2.2.2.2.2.1,x.2.2.2.1.2.2.2.2.2.2.2.2.2.1,x.2.2.2.1.2.2.2.2.2.2.2.2.2.2.1,x.2.2.2.1.2.2.2.2.2.2.2.2.2.2.2.1,x.2.2.2.1.2.2.2.2.2.2.2.2.2.2.2.2.1,x.2.2.2.1.2.2.2.2.2.2.2.2.2.2.2.2.2.1,x.2.2.2.1.2.2.2.2.2.2.2.2.2.2.2.2.2.2.1,x.2.2.2.2.2.2.1)
theorem zad_subs:qAp zad_L zad_G 0 30 42 zad_q:=qAm (show qAt zad_L zad_G 0 30 42 [(0,zad_b0)] from ⟨zad_sub0,tV⟩)
def zad_da:=(qAa (dVC (dCO dS)) dNil)
def zad_db:=(dNil:Dec Unit (List SB))
def zad_c:CS:=mkC zad_da zad_db (fun x y=>zad_s x.1) (fun x y r=>.tup [.agg [.own 0,.vS r.1.iss,.vB r.1.hasIss,.vS r.1.sub,.vB r.1.hasSub,.own 1,.vB r.1.hasAud,.vS r.1.jti,.vB r.1.hasJti,.vB r.1.exp_.has,.vI r.1.exp_.at_,.vB r.1.nbf.has,.vI r.1.nbf.at_,.vB r.1.iat.has,.vI r.1.iat.at_],.o (.vI r.2)]) fun x y r=>[.row .node 46 r.1.value,.row .str 9 r.1.aud]
theorem zad_val:qAn Tryd.prog 23 zad_c:=qAo zad_chk 30 zad_Gok 0 (fun x=>Nat.le_of_ble_eq_true rfl) (fun y=>rfl) zad_subs fun x y=>by
 simp only [zad_s,-eq_self,qAe,qAh,obA,obS,slL,slR,qAd]
 kernel_rfl
def zad_w:CQ:=qDs [] zad_c
theorem zad_ok:qAg Tryd.prog 23 zad_w:=liftQ_valid zad_val
def zbp_b0:IQ:=(.loop [0,1,5] (.seq (.seq (rg 14 [oM 11 t5,oM 12 t0,oP 13 (.len t12),oP 14 (.bi .lss t11 t13)]) (.cond t14 .skip (.cn [] (.exit 0)))) (.seq (.block 1 (.seq (.reg 25 (some [0,1,2,3,4,5,6,7,8]) [oM 17 t0,oM 18 t5,oP 19 (.iaddr 1 t17 t18),oP 20 (.load none t19),oM 21 t1,oM 22 t5,oP 23 (.iaddr 1 t21 t22),oP 24 (.load none t23),oP 25 (.bi .neq t20 t24)]) (.cond t25 (.seq (rg 4 [oP 4 (.mv vF)]) (.cn [4] .ret)) .skip))) (rg 5 [oM 15 t5,oP 16 (.bi .add t15 (vI 1)),oM 5 t16]))))
def zbp_q:IQ:=(.seq (rg 4 [oP 4 (.mv vF)]) (.seq (.seq (rg 10 [oM 6 t0,oP 7 (.len t6),oM 8 t1,oP 9 (.len t8),oP 10 (.bi .neq t7 t9)]) (.cond t10 (.seq (rg 4 [oP 4 (.mv vF)]) (.cn [4] .ret)) .skip)) (.seq (.seq (rg 5 [oP 5 (.mv (vI 0))]) (.block 0 (.cn [0,1,5] (.sub 0 zbp_b0)))) (.seq (rg 4 [oP 4 (.mv vT)]) (.cn [4] .ret)))))
theorem zbp_chk:chk Tryd.prog 31 []=some (zbp_q.erase,[.tmp 4],26):=by kernel_rfl
def qFw (i:Int) (a b:List BA):Option (Int ⊕ (Bool ⊕ Unit)) :=
 bif decide (i<(a.length:Int)) then (
  gd (0≤i∧i<a.length) <|
  gd ((Int.toNat i)<a.length) <|
  gd (0≤i∧i<b.length) <|
  gd ((Int.toNat i)<b.length) <|
  bif (!decide ((a.getD (Int.toNat i) (ET.dft .str))=(b.getD (Int.toNat i) (ET.dft .str)))) then (
   some (.inr (.inl false)))
  else (
   gd (qAc (i+(1:Int))) <|
   some (.inl (i+(1:Int)))))
 else (
  some (.inr (.inr ())))
def zbp_p0 (i:Int) (a b:List BA):Option (Bool ⊕ Unit) :=
 qBa (fun x:Int=>qFw x a b) i
def zbp_s (a b:(List BA)):Option Bool :=
 bif (!decide ((a.length:Int)=(b.length:Int))) then (
  some false)
 else (
  (zbp_p0 (0:Int) a b).bind fun o1=>(Sum.elim (fun (o1_0:Bool) =>
   some o1_0) (fun (o1_1:Unit) =>
   some true)) o1)
def zbp_G:Nat→Option CQ:=tblQ []
theorem zbp_Gok:∀f C,zbp_G f=some C→qAg Tryd.prog f C:=fun f C h=>by cases h
def zbp_d0:=(dQS (qAa (dSO 0 (dO 0)) (qAa (dSO 1 (dO 1)) (qAa (dSO 5 dZ) dNil))) (qAa (qAu .str) (qAa (qAu .str) dNil)))
def zbp_l0:SubQ:=mkL zbp_d0 (fun x=>zbp_p0 x.1.2.2.1 x.2.1 x.2.2.1) fun x r R kn kx kr=>(Sum.elim (fun (r_0:Bool)=>kr ⟨[sL 4 (.vB r_0)],[],[.view .str x.2.1,.view .str x.2.2.1]⟩) (fun (r_1:Unit)=>kx 0 ⟨[],[],[.view .str x.2.1,.view .str x.2.2.1]⟩)) r
def zbp_L:Nat→SubQ:=tblL [(0,zbp_l0)]
theorem zbp_sub0:qCf zbp_L zbp_G 2 6 26 0 zbp_b0:=qAy (show zbp_L 0=zbp_l0 from by kernel_rfl) fun x R kn kx kr=>qAw (step:=fun y=>qFw y x.2.1 x.2.2.1) (enc:=fun (y:Int)=>zbp_d0.e ((x.1.1,x.1.2.1,y,x.1.2.2.2),x.2)) (fun y=>by kernel_rfl) (fun y ki=>by simp only [qFw,-eq_self,qAe,qAh,obA,obS,slL,slR,qAd]; kernel_rfl) x.1.2.2.1
theorem zbp_subs:qAp zbp_L zbp_G 2 6 26 zbp_q:=qAm (show qAt zbp_L zbp_G 2 6 26 [(0,zbp_b0)] from ⟨zbp_sub0,tV⟩)
def zbp_da:=(qAa (dVC (dCO (dO 0))) (qAa (dVC (dCO (dO 1))) dNil))
def zbp_db:=(qAa (qAu .str) (qAa (qAu .str) dNil))
def zbp_c:CS:=mkC zbp_da zbp_db (fun x y=>zbp_s y.1 y.2.1) (fun x y r=>.c (.o (.vB r))) fun x y r=>[.view .str y.1,.view .str y.2.1]
theorem zbp_val:qAn Tryd.prog 31 zbp_c:=qAo zbp_chk 6 zbp_Gok 2 (fun x=>Nat.le_of_ble_eq_true rfl) (fun y=>rfl) zbp_subs fun x y=>by
 simp only [zbp_s,-eq_self,qAe,qAh,obA,obS,slL,slR,qAd]
 kernel_rfl
def zbp_w:CQ:=qCa [(0,none,some (.str,9)),(1,none,some (.str,9))] (qD7 [false,false] zbp_c)
theorem zbp_ok:qAg Tryd.prog 31 zbp_w:=qB7 zbp_val
def zbo_b0:IQ:=(.loop [0,1,5] (.seq (.seq (rg 14 [oM 11 t5,oM 12 t0,oP 13 (.len t12),oP 14 (.bi .lss t11 t13)]) (.cond t14 .skip (.cn [] (.exit 0)))) (.seq (.block 1 (.seq (.reg 25 (some [0,1,2,3,4,5,6,7,8]) [oM 17 t0,oM 18 t5,oP 19 (.iaddr 6 t17 t18),oP 20 (.load (some 6) t19),oM 21 t1,oM 22 t5,oP 23 (.iaddr 6 t21 t22),oP 24 (.load (some 6) t23),oP 25 (.ext (.aggEq true [.int .i64,.str,.str,.bool,.int .i64,.int .i64]) [t20,t24])]) (.cond t25 (.seq (rg 4 [oP 4 (.mv vF)]) (.cn [4] .ret)) .skip))) (rg 5 [oM 15 t5,oP 16 (.bi .add t15 (vI 1)),oM 5 t16]))))
def zbo_q:IQ:=(.seq (rg 4 [oP 4 (.mv vF)]) (.seq (.seq (rg 10 [oM 6 t0,oP 7 (.len t6),oM 8 t1,oP 9 (.len t8),oP 10 (.bi .neq t7 t9)]) (.cond t10 (.seq (rg 4 [oP 4 (.mv vF)]) (.cn [4] .ret)) .skip)) (.seq (.seq (rg 5 [oP 5 (.mv (vI 0))]) (.block 0 (.cn [0,1,5] (.sub 0 zbo_b0)))) (.seq (rg 4 [oP 4 (.mv vT)]) (.cn [4] .ret)))))
theorem zbo_chk:chk Tryd.prog 30 []=some (zbo_q.erase,[.tmp 4],26):=by kernel_rfl
def qFn (i:Int) (a b:List Eng.Node):Option (Int ⊕ (Bool ⊕ Unit)) :=
 bif decide (i<(a.length:Int)) then (
  gd (0≤i∧i<a.length) <|
  gd ((Int.toNat i)<a.length) <|
  gd (0≤i∧i<b.length) <|
  gd ((Int.toNat i)<b.length) <|
  bif (!(decide (((a.getD (Int.toNat i) (ET.dft .node)).kind)=((b.getD (Int.toNat i) (ET.dft .node)).kind)) && (decide (((a.getD (Int.toNat i) (ET.dft .node)).key)=((b.getD (Int.toNat i) (ET.dft .node)).key)) && (decide (((a.getD (Int.toNat i) (ET.dft .node)).text)=((b.getD (Int.toNat i) (ET.dft .node)).text)) && ((((a.getD (Int.toNat i) (ET.dft .node)).whole) == ((b.getD (Int.toNat i) (ET.dft .node)).whole)) && (decide (((a.getD (Int.toNat i) (ET.dft .node)).int)=((b.getD (Int.toNat i) (ET.dft .node)).int)) && (decide (((a.getD (Int.toNat i) (ET.dft .node)).kids)=((b.getD (Int.toNat i) (ET.dft .node)).kids)) && true))))))) then (
   some (.inr (.inl false)))
  else (
   gd (qAc (i+(1:Int))) <|
   some (.inl (i+(1:Int)))))
 else (
  some (.inr (.inr ())))
def zbo_p0 (i:Int) (a b:List Eng.Node):Option (Bool ⊕ Unit) :=
 qBa (fun x:Int=>qFn x a b) i
def zbo_s (a b:(List Eng.Node)):Option Bool :=
 bif (!decide ((a.length:Int)=(b.length:Int))) then (
  some false)
 else (
  (zbo_p0 (0:Int) a b).bind fun o1=>(Sum.elim (fun (o1_0:Bool) =>
   some o1_0) (fun (o1_1:Unit) =>
   some true)) o1)
def zbo_G:Nat→Option CQ:=tblQ []
theorem zbo_Gok:∀f C,zbo_G f=some C→qAg Tryd.prog f C:=fun f C h=>by cases h
def zbo_d0:=(dQS (qAa (dSO 0 (dO 0)) (qAa (dSO 1 (dO 1)) (qAa (dSO 5 dZ) dNil))) (qAa (qAu .node) (qAa (qAu .node) dNil)))
def zbo_l0:SubQ:=mkL zbo_d0 (fun x=>zbo_p0 x.1.2.2.1 x.2.1 x.2.2.1) fun x r R kn kx kr=>(Sum.elim (fun (r_0:Bool)=>kr ⟨[sL 4 (.vB r_0)],[],[.view .node x.2.1,.view .node x.2.2.1]⟩) (fun (r_1:Unit)=>kx 0 ⟨[],[],[.view .node x.2.1,.view .node x.2.2.1]⟩)) r
def zbo_L:Nat→SubQ:=tblL [(0,zbo_l0)]
theorem zbo_sub0:qCf zbo_L zbo_G 2 6 26 0 zbo_b0:=qAy (show zbo_L 0=zbo_l0 from by kernel_rfl) fun x R kn kx kr=>qAw (step:=fun y=>qFn y x.2.1 x.2.2.1) (enc:=fun (y:Int)=>zbo_d0.e ((x.1.1,x.1.2.1,y,x.1.2.2.2),x.2)) (fun y=>by kernel_rfl) (fun y ki=>by simp only [qFn,-eq_self,qAe,qAh,obA,obS,slL,slR,qAd]; kernel_rfl) x.1.2.2.1
theorem zbo_subs:qAp zbo_L zbo_G 2 6 26 zbo_q:=qAm (show qAt zbo_L zbo_G 2 6 26 [(0,zbo_b0)] from ⟨zbo_sub0,tV⟩)
def zbo_da:=(qAa (dVC (dCO (dO 0))) (qAa (dVC (dCO (dO 1))) dNil))
def zbo_db:=(qAa (qAu .node) (qAa (qAu .node) dNil))
def zbo_c:CS:=mkC zbo_da zbo_db (fun x y=>zbo_s y.1 y.2.1) (fun x y r=>.c (.o (.vB r))) fun x y r=>[.view .node y.1,.view .node y.2.1]
theorem zbo_val:qAn Tryd.prog 30 zbo_c:=qAo zbo_chk 6 zbo_Gok 2 (fun x=>Nat.le_of_ble_eq_true rfl) (fun y=>rfl) zbo_subs fun x y=>by
 simp only [zbo_s,-eq_self,qAe,qAh,obA,obS,slL,slR,qAd]
 kernel_rfl
def zbo_w:CQ:=qCa [(0,none,some (.node,46)),(1,none,some (.node,46))] (qD7 [false,false] zbo_c)
theorem zbo_ok:qAg Tryd.prog 30 zbo_w:=qB7 zbo_val
def zbn_q:IQ:=(.seq (rg 4 [oP 2 (.box 51 15 t0),oP 3 (.box 51 15 t1),oP 4 (.mv vF)]) (.seq (rg 4 [oP 5 (.faddr 1 t2),oP 6 (.load none t5),oP 7 (.faddr 1 t3),oP 8 (.load none t7),oP 9 (.bi .eql t6 t8),oM 10 t9,oF 11 (.faddr 2 t2) 10,oF 12 (.load none t11) 10,oF 13 (.faddr 2 t3) 10,oF 14 (.load none t13) 10,oF 15 (.beq false t12 t14) 10,oP 16 (.pick t10 t15 vF),oM 17 t16,oF 18 (.faddr 3 t2) 17,oF 19 (.load none t18) 17,oF 20 (.faddr 3 t3) 17,oF 21 (.load none t20) 17,oF 22 (.bi .eql t19 t21) 17,oP 23 (.pick t17 t22 vF),oM 24 t23,oF 25 (.faddr 4 t2) 24,oF 26 (.load none t25) 24,oF 27 (.faddr 4 t3) 24,oF 28 (.load none t27) 24,oF 29 (.beq false t26 t28) 24,oP 30 (.pick t24 t29 vF),oM 31 t30,oF 32 (.faddr 5 t2) 31,oF 33 (.load none t32) 31,oF 34 (.faddr 5 t3) 31,oF 35 (.load none t34) 31,oF 36 (.call 31 [t33,t35]) 31,oP 37 (.pick t31 t36 vF),oM 38 t37,oF 39 (.faddr 6 t2) 38,oF 40 (.load none t39) 38,oF 41 (.faddr 6 t3) 38,oF 42 (.load none t41) 38,oF 43 (.beq false t40 t42) 38,oP 44 (.pick t38 t43 vF),oM 45 t44,oF 46 (.faddr 7 t2) 45,oF 47 (.load none t46) 45,oF 48 (.faddr 7 t3) 45,oF 49 (.load none t48) 45,oF 50 (.bi .eql t47 t49) 45,oP 51 (.pick t45 t50 vF),oM 52 t51,oF 53 (.faddr 8 t2) 52,oF 54 (.load none t53) 52,oF 55 (.faddr 8 t3) 52,oF 56 (.load none t55) 52,oF 57 (.beq false t54 t56) 52,oP 58 (.pick t52 t57 vF),oM 59 t58,oF 60 (.faddr 9 t2) 59,oF 61 (.load (some 2) t60) 59,oF 62 (.faddr 9 t3) 59,oF 63 (.load (some 2) t62) 59,oF 64 (.ext (.aggEq false [.bool,.int .i64]) [t61,t63]) 59,oP 65 (.pick t59 t64 vF),oM 66 t65,oF 67 (.faddr 11 t2) 66,oF 68 (.load (some 2) t67) 66,oF 69 (.faddr 11 t3) 66,oF 70 (.load (some 2) t69) 66,oF 71 (.ext (.aggEq false [.bool,.int .i64]) [t68,t70]) 66,oP 72 (.pick t66 t71 vF),oM 73 t72,oF 74 (.faddr 13 t2) 73,oF 75 (.load (some 2) t74) 73,oF 76 (.faddr 13 t3) 73,oF 77 (.load (some 2) t76) 73,oF 78 (.ext (.aggEq false [.bool,.int .i64]) [t75,t77]) 73,oP 79 (.pick t73 t78 vF),oM 80 t79,oF 81 (.faddr 0 t2) 80,oF 82 (.load none t81) 80,oF 83 (.faddr 0 t3) 80,oF 84 (.load none t83) 80,oF 85 (.call 30 [t82,t84]) 80,oP 86 (.pick t80 t85 vF),oM 4 t86]) (.cn [4] .ret)))
theorem zbn_chk:chk Tryd.prog 25 []=some (zbn_q.erase,[.tmp 4],87):=by kernel_rfl
def zbn_s (a b:qHc):Option Bool :=
 bif ((((decide (a.iss=b.iss)) && (a.hasIss == b.hasIss)) && (decide (a.sub=b.sub))) && (a.hasSub == b.hasSub)) then (
  (zbp_s a.aud b.aud).bind fun r1 =>
  bif ((((((r1 && (a.hasAud == b.hasAud)) && (decide (a.jti=b.jti))) && (a.hasJti == b.hasJti)) && ((a.exp_.has == b.exp_.has) && (decide (a.exp_.at_=b.exp_.at_) && true))) && ((a.nbf.has == b.nbf.has) && (decide (a.nbf.at_=b.nbf.at_) && true))) && ((a.iat.has == b.iat.has) && (decide (a.iat.at_=b.iat.at_) && true))) then (
   (zbo_s a.value b.value).bind fun r2 =>
   some r2)
  else (
   some false))
 else (
  some false)
def zbn_G:Nat→Option CQ:=tblQ [(31,zbp_w),(30,zbo_w)]
theorem zbn_Gok:∀f C,zbn_G f=some C→qAg Tryd.prog f C:=qAl ⟨zbp_ok,zbo_ok,tV⟩
def zbn_L:Nat→SubQ:=tblL []
theorem zbn_subs:qAp zbn_L zbn_G 4 5 87 zbn_q:=qAm (show qAt zbn_L zbn_G 4 5 87 [] from tV)
def zbn_da:=(qAa (dVC (dCA (qAa (dO 0) (qAa dS (qAa dB (qAa dS (qAa dB (qAa (dO 1) (qAa dB (qAa dS (qAa dB (qAa dB (qAa dZ (qAa dB (qAa dZ (qAa dB (qAa dZ dNil))))))))))))))))) (qAa (dVC (dCA (qAa (dO 2) (qAa dS (qAa dB (qAa dS (qAa dB (qAa (dO 3) (qAa dB (qAa dS (qAa dB (qAa dB (qAa dZ (qAa dB (qAa dZ (qAa dB (qAa dZ dNil))))))))))))))))) dNil))
def zbn_db:=(qAa (qAu .node) (qAa (qAu .str) (qAa (qAu .node) (qAa (qAu .str) dNil))))
def zbn_c:CS:=mkC zbn_da zbn_db (fun x y=>zbn_s (⟨y.1,x.1.2.1,x.1.2.2.1,x.1.2.2.2.1,x.1.2.2.2.2.1,y.2.1,x.1.2.2.2.2.2.2.1,x.1.2.2.2.2.2.2.2.1,x.1.2.2.2.2.2.2.2.2.1,(⟨x.1.2.2.2.2.2.2.2.2.2.1,x.1.2.2.2.2.2.2.2.2.2.2.1⟩:qHf),(⟨x.1.2.2.2.2.2.2.2.2.2.2.2.1,x.1.2.2.2.2.2.2.2.2.2.2.2.2.1⟩:qHf),(⟨x.1.2.2.2.2.2.2.2.2.2.2.2.2.2.1,x.1.2.2.2.2.2.2.2.2.2.2.2.2.2.2.1⟩:qHf)⟩:qHc) (⟨y.2.2.1,x.2.1.2.1,x.2.1.2.2.1,x.2.1.2.2.2.1,x.2.1.2.2.2.2.1,y.2.2.2.1,x.2.1.2.2.2.2.2.2.1,x.2.1.2.2.2.2.2.2.2.1,x.2.1.2.2.2.2.2.2.2.2.1,(⟨x.2.1.2.2.2.2.2.2.2.2.2.1,x.2.1.2.2.2.2.2.2.2.2.2.2.1⟩:qHf),(⟨x.2.1.2.2.2.2.2.2.2.2.2.2.2.1,x.2.1.2.2.2.2.2.2.2.2.2.2.2.2.1⟩:qHf),(⟨x.2.1.2.2.2.2.2.2.2.2.2.2.2.2.2.1,x.2.1.2.2.2.2.2.2.2.2.2.2.2.2.2.2.1⟩:qHf)⟩:qHc)) (fun x y r=>.c (.o (.vB r))) fun x y r=>[.view .node y.1,.view .str y.2.1,.view .node y.2.2.1,.view .str y.2.2.2.1]
theorem zbn_val:qAn Tryd.prog 25 zbn_c:=qAo zbn_chk 5 zbn_Gok 4 (fun x=>Nat.le_of_ble_eq_true rfl) (fun y=>rfl) zbn_subs fun x y=>by
 simp only [zbn_s,-eq_self,qAe,qAh,obA,obS,slL,slR,qAd]
 kernel_rfl
def zbn_w:CQ:=qCa [(0,some 0,some (.node,46)),(0,some 5,some (.str,9)),(1,some 0,some (.node,46)),(1,some 5,some (.str,9))] (qD7 [false,false,false,false] zbn_c)
theorem zbn_ok:qAg Tryd.prog 25 zbn_w:=qB7 zbn_val
end
end Go.Proofs.YticplgndjpljiaaDoor
