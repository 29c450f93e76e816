/-
  Functions as the engine reads them (printed by gen.py).
-/
import Derived.Test.YticplgndjpljiaaDoorEngO
import Derived.Test.YticplgndjpljiaaDoorProg
import Derived.Test.YticplgndjpljiaaDoorPShape
import Derived.Test.YticplgndjpljiaaDoorGC
import Derived.Test.YticplgndjpljiaaDoorPShaped
import Derived.Test.YticplgndjpljiaaDoorJP
import Derived.Test.YticplgndjpljiaaDoorJQ
namespace Go.Proofs.YticplgndjpljiaaDoor
open Go.Eng
set_option linter.unusedVariables false
set_option linter.unusedSimpArgs false
set_option maxRecDepth 100000
noncomputable section
structure qG7 where
 has:Bool
 at_:Int
structure qG3 where
 value:(List Eng.Node)
 iss:BA
 hasIss:Bool
 sub:BA
 hasSub:Bool
 aud:(List BA)
 hasAud:Bool
 jti:BA
 hasJti:Bool
 exp_:qG7
 nbf:qG7
 iat:qG7
def zab_b0:IQ:=(.loop [0,1,28,29,30] (.join [(1000000,some 5,.u8,0)] [0,1,28,29,30] (.seq (rg 31 [oP 31 (.bi .lss t30 t29)]) (.seq (.cond t31 .skip (.cn [0] (.exit 4))) (.seq (.block 5 (.seq (rg 8 [oP 32 (.iaddr 1 t28 t30),oP 33 (.load none t32),oM 8 t33]) (.seq (.seq (rg 39 [oM 34 t1,oM 35 t8,oP 36 (.iaddr 6 t34 t35),oP 37 (.faddr 0 t36),oP 38 (.load none t37),oP 39 (.bi .neq t38 (vI 5))]) (.cond t39 (.seq (rg 6 [oP 6 (.mv vF)]) (.canon [(1000000,some 5,.u8,0),(3000003,none,.u8,0)] [6] .ret)) .skip)) (.reg 0 (some [0,1,2,3,4,5,6,7,8,9,10,11,12,13,14]) [oM 40 t0,oM 41 t0,oP 42 (.nk t41),oP 43 (.faddr 5 t42),oP 44 (.load none t43),oM 45 t1,oM 46 t8,oP 47 (.iaddr 6 t45 t46),oP 48 (.faddr 2 t47),oP 49 (.load none t48),oP 50 (.bslice 9 1 1 [.string ⟨#[]⟩] [(0,t49)]),oP 51 (.append 9 1 16 [.string ⟨#[]⟩] t44 t50),oP 52 (.nk t40),oP 53 (.faddr 5 t52),oN (.store 1 t53 t51)])))) (rg 30 [oP 54 (.bi .add t30 (vI 1)),oM 30 t54]))))))
def zab_b1:IQ:=(.seq (rg 0 [oM 55 t0,oM 56 t1,oM 57 t2,oP 58 (.iaddr 6 t56 t57),oP 59 (.faddr 2 t58),oP 60 (.load none t59),oP 61 (.bslice 9 1 1 [.string ⟨#[]⟩] [(0,t60)]),oP 62 (.nk t55),oP 63 (.faddr 5 t62),oN (.store 1 t63 t61)]) (.seq (rg 6 [oP 6 (.mv vT)]) (.canon [(1000000,some 5,.u8,0),(3000003,none,.u8,0)] [6] .ret)))
def zab_q:IQ:=(.seq (rg 6 [oP 6 (.mv vF)]) (.seq (rg 0 [oM 9 t0,oP 10 (.nk t9),oP 11 (.faddr 6 t10),oN (.store 1 t11 vT)]) (.seq (.seq (rg 16 [oM 12 t1,oM 13 t2,oP 14 (.iaddr 6 t12 t13),oP 15 (.faddr 0 t14),oP 16 (.load none t15)]) (.block 0 (.seq (.block 3 (.block 2 (.seq (.block 1 (.seq (.seq (.seq (rg 17 [oP 18 (.bi .eql t16 (vI 6)),oM 17 t18]) (.cond t17 (.exit 1) .skip)) (.seq (.seq (.seq (rg 19 [oP 20 (.bi .eql t16 (vI 1)),oM 19 t20]) (.cond t19 .skip (rg 19 [oP 21 (.bi .eql t16 (vI 3)),oM 19 t21]))) (.cond t19 (.exit 2) .skip)) (.seq (.seq (rg 22 [oP 23 (.bi .eql t16 (vI 2)),oM 22 t23]) (.cond t22 .skip (.seq (rg 22 [oP 24 (.bi .eql t16 (vI 4)),oM 22 t24]) (.cond t22 .skip (rg 22 [oP 25 (.bi .eql t16 (vI 7)),oM 22 t25]))))) (.cond t22 (.exit 3) .skip)))) (.exit 0))) (.seq (.seq (.seq (rg 30 [oM 26 t1,oM 27 t2,oP 28 (.call 29 [t26,t27]),oP 29 (.len t28),oP 30 (.mv (vI 0))]) (.block 4 (.canon [(1000000,some 5,.u8,0)] [0,1,28,29,30] (.sub 0 zab_b0)))) (.seq (rg 6 [oP 6 (.mv vT)]) (.canon [(1000000,some 5,.u8,0),(3000003,none,.u8,0)] [6] .ret))) (.exit 0))))) (.seq (.seq (rg 6 [oP 6 (.mv vF)]) (.canon [(1000000,some 5,.u8,0),(3000003,none,.u8,0)] [6] .ret)) (.exit 0))))) (.cn [0,1,2] (.sub 1 zab_b1)))))
theorem zab_chk:chk Tryd.prog 84 []=some (zab_q.erase,[.tmp 6],64):=by kernel_rfl
def qD3 (x29_ x30_:Int) (v:List Eng.Node) (x28_:List Int) (qHb:List BA):Option ((Int × (List BA)) ⊕ ((Bool × (List BA)) ⊕ ((List BA)))) :=
 bif decide (x30_<x29_) then (
  gd (0≤x30_∧x30_<x28_.length) <|
  gd ((Int.toNat x30_)<x28_.length) <|
  gd (0≤(x28_.getD (Int.toNat x30_) (ET.dft .i64))∧(x28_.getD (Int.toNat x30_) (ET.dft .i64))<v.length) <|
  gd ((Int.toNat (x28_.getD (Int.toNat x30_) (ET.dft .i64)))<v.length) <|
  gd ((Int.toNat (x28_.getD (Int.toNat x30_) (ET.dft .i64)))<v.length) <|
  bif (!decide (((v.getD (Int.toNat (x28_.getD (Int.toNat x30_) (ET.dft .i64))) (ET.dft .node)).kind)=(5:Int))) then (
   some (.inr (.inl (false,qHb))))
  else (
   gd (0≤(x28_.getD (Int.toNat x30_) (ET.dft .i64))∧(x28_.getD (Int.toNat x30_) (ET.dft .i64))<v.length) <|
   gd ((Int.toNat (x28_.getD (Int.toNat x30_) (ET.dft .i64)))<v.length) <|
   gd ((Int.toNat (x28_.getD (Int.toNat x30_) (ET.dft .i64)))<v.length) <|
   gd (qHb.length+([(v.getD (Int.toNat (x28_.getD (Int.toNat x30_) (ET.dft .i64))) (ET.dft .node)).text]:List BA).length≤9223372036854775807∧(qHb.length+([(v.getD (Int.toNat (x28_.getD (Int.toNat x30_) (ET.dft .i64))) (ET.dft .node)).text]:List BA).length)*16≤140737488355328) <|
   gd (qAe (x30_+(1:Int))) <|
   some (.inl ((x30_+(1:Int)),(qHb++[(v.getD (Int.toNat (x28_.getD (Int.toNat x30_) (ET.dft .i64))) (ET.dft .node)).text])))))
 else (
  some (.inr (.inr qHb)))
def zab_p0 (x29_ x30_:Int) (v:List Eng.Node) (x28_:List Int) (qHb:List BA):Option ((Bool × (List BA)) ⊕ ((List BA))) :=
 qA6 (fun x:(Int × (List BA))=>qD3 x29_ x.1 v x28_ x.2) (x30_,qHb)
def zab_p1 (at_:Int) (v:List Eng.Node):Option (Bool × (List BA)) :=
 gd (0≤at_∧at_<v.length) <|
 gd ((Int.toNat at_)<v.length) <|
 gd ((Int.toNat at_)<v.length) <|
 some (true,[(v.getD (Int.toNat at_) (ET.dft .node)).text])
def zab_s (c:qG3) (v:(List Eng.Node)) (at_:Int):Option (qG3 × Bool) :=
 gd (0≤at_∧at_<v.length) <|
 gd ((Int.toNat at_)<v.length) <|
 gd ((Int.toNat at_)<v.length) <|
 bif decide (((v.getD (Int.toNat at_) (ET.dft .node)).kind)=(6:Int)) then (
  (zaj_s v at_).bind fun r9 =>
  (zab_p0 (r9.length:Int) (0:Int) v r9 c.aud).bind fun o10=>(Sum.elim (fun (o10_0:Bool × (List BA)) =>
   some ((⟨c.value,c.iss,c.hasIss,c.sub,c.hasSub,o10_0.2,true,c.jti,c.hasJti,c.exp_,c.nbf,c.iat⟩:qG3),o10_0.1)) (fun (o10_1:(List BA)) =>
   some ((⟨c.value,c.iss,c.hasIss,c.sub,c.hasSub,o10_1,true,c.jti,c.hasJti,c.exp_,c.nbf,c.iat⟩:qG3),true))) o10)
 else (
  bif decide (((v.getD (Int.toNat at_) (ET.dft .node)).kind)=(1:Int)) then (
   bif decide (((v.getD (Int.toNat at_) (ET.dft .node)).kind)=(1:Int)) then (
    some ((⟨c.value,c.iss,c.hasIss,c.sub,c.hasSub,c.aud,true,c.jti,c.hasJti,c.exp_,c.nbf,c.iat⟩:qG3),false))
   else (
    bif decide (((v.getD (Int.toNat at_) (ET.dft .node)).kind)=(2:Int)) then (
     bif decide (((v.getD (Int.toNat at_) (ET.dft .node)).kind)=(2:Int)) then (
      some ((⟨c.value,c.iss,c.hasIss,c.sub,c.hasSub,c.aud,true,c.jti,c.hasJti,c.exp_,c.nbf,c.iat⟩:qG3),false))
     else (
      (zab_p1 at_ v).bind fun o11 =>
      some ((⟨c.value,c.iss,c.hasIss,c.sub,c.hasSub,o11.2,true,c.jti,c.hasJti,c.exp_,c.nbf,c.iat⟩:qG3),o11.1)))
    else (
     bif decide (((v.getD (Int.toNat at_) (ET.dft .node)).kind)=(4:Int)) then (
      bif decide (((v.getD (Int.toNat at_) (ET.dft .node)).kind)=(4:Int)) then (
       some ((⟨c.value,c.iss,c.hasIss,c.sub,c.hasSub,c.aud,true,c.jti,c.hasJti,c.exp_,c.nbf,c.iat⟩:qG3),false))
      else (
       (zab_p1 at_ v).bind fun o12 =>
       some ((⟨c.value,c.iss,c.hasIss,c.sub,c.hasSub,o12.2,true,c.jti,c.hasJti,c.exp_,c.nbf,c.iat⟩:qG3),o12.1)))
     else (
      bif decide (((v.getD (Int.toNat at_) (ET.dft .node)).kind)=(7:Int)) then (
       some ((⟨c.value,c.iss,c.hasIss,c.sub,c.hasSub,c.aud,true,c.jti,c.hasJti,c.exp_,c.nbf,c.iat⟩:qG3),false))
      else (
       (zab_p1 at_ v).bind fun o13 =>
       some ((⟨c.value,c.iss,c.hasIss,c.sub,c.hasSub,o13.2,true,c.jti,c.hasJti,c.exp_,c.nbf,c.iat⟩:qG3),o13.1))))))
  else (
   bif decide (((v.getD (Int.toNat at_) (ET.dft .node)).kind)=(3:Int)) then (
    some ((⟨c.value,c.iss,c.hasIss,c.sub,c.hasSub,c.aud,true,c.jti,c.hasJti,c.exp_,c.nbf,c.iat⟩:qG3),false))
   else (
    bif decide (((v.getD (Int.toNat at_) (ET.dft .node)).kind)=(2:Int)) then (
     bif decide (((v.getD (Int.toNat at_) (ET.dft .node)).kind)=(2:Int)) then (
      some ((⟨c.value,c.iss,c.hasIss,c.sub,c.hasSub,c.aud,true,c.jti,c.hasJti,c.exp_,c.nbf,c.iat⟩:qG3),false))
     else (
      (zab_p1 at_ v).bind fun o14 =>
      some ((⟨c.value,c.iss,c.hasIss,c.sub,c.hasSub,o14.2,true,c.jti,c.hasJti,c.exp_,c.nbf,c.iat⟩:qG3),o14.1)))
    else (
     bif decide (((v.getD (Int.toNat at_) (ET.dft .node)).kind)=(4:Int)) then (
      bif decide (((v.getD (Int.toNat at_) (ET.dft .node)).kind)=(4:Int)) then (
       some ((⟨c.value,c.iss,c.hasIss,c.sub,c.hasSub,c.aud,true,c.jti,c.hasJti,c.exp_,c.nbf,c.iat⟩:qG3),false))
      else (
       (zab_p1 at_ v).bind fun o15 =>
       some ((⟨c.value,c.iss,c.hasIss,c.sub,c.hasSub,o15.2,true,c.jti,c.hasJti,c.exp_,c.nbf,c.iat⟩:qG3),o15.1)))
     else (
      bif decide (((v.getD (Int.toNat at_) (ET.dft .node)).kind)=(7:Int)) then (
       some ((⟨c.value,c.iss,c.hasIss,c.sub,c.hasSub,c.aud,true,c.jti,c.hasJti,c.exp_,c.nbf,c.iat⟩:qG3),false))
      else (
       (zab_p1 at_ v).bind fun o16 =>
       some ((⟨c.value,c.iss,c.hasIss,c.sub,c.hasSub,o16.2,true,c.jti,c.hasJti,c.exp_,c.nbf,c.iat⟩:qG3),o16.1)))))))
def zab_G:Nat→Option CQ:=tblQ [(29,zaj_w)]
theorem zab_Gok:∀f C,zab_G f=some C→qAg Tryd.prog f C:=qAi ⟨zaj_ok,tV⟩
def zab_d0:=(dQS (qAa (dSO 0 (dH 0 0)) (qAa (dSO 1 (dO 1)) (qAa (dSO 28 (dO 4)) (qAa (dSO 29 dZ) (qAa (dSO 30 dZ) dNil))))) (qAa (qAp 51 (qAa (dO 2) (qAa dS (qAa dB (qAa dS (qAa dB (qAa (dO 5) (qAa dB (qAa dS (qAa dB (qAa dB (qAa dZ (qAa dB (qAa dZ (qAa dB (qAa dZ dNil)))))))))))))))) (qAa (qAz .node) (qAa (qAz .node) (qAa dDead (qAa (dRow .i64 3) (qAa (dRow .str 9) dNil)))))))
def zab_l0:SubQ:=mkL zab_d0 (fun x=>zab_p0 x.1.2.2.2.1 x.1.2.2.2.2.1 x.2.2.1 x.2.2.2.2.2.1 x.2.2.2.2.2.2.1) fun x r R kn kx kr=>(Sum.elim (fun (r_0:Bool × (List BA))=>kr ⟨[sL 6 (.vB r_0.1)],[],[.cells 51 [.own 2,.vS x.2.1.2.1,.vB x.2.1.2.2.1,.vS x.2.1.2.2.2.1,.vB x.2.1.2.2.2.2.1,.own 4,.vB x.2.1.2.2.2.2.2.2.1,.vS x.2.1.2.2.2.2.2.2.2.1,.vB x.2.1.2.2.2.2.2.2.2.2.1,.vB x.2.1.2.2.2.2.2.2.2.2.2.1,.vI x.2.1.2.2.2.2.2.2.2.2.2.2.1,.vB x.2.1.2.2.2.2.2.2.2.2.2.2.2.1,.vI x.2.1.2.2.2.2.2.2.2.2.2.2.2.2.1,.vB x.2.1.2.2.2.2.2.2.2.2.2.2.2.2.2.1,.vI x.2.1.2.2.2.2.2.2.2.2.2.2.2.2.2.2.1],.view .node x.2.2.1,.view .node x.2.2.2.1,.dead,.row .str 9 r_0.2]⟩) (fun (r_1:(List BA))=>kx 4 ⟨[sL 0 (.hd 0 0)],[],[.cells 51 [.own 2,.vS x.2.1.2.1,.vB x.2.1.2.2.1,.vS x.2.1.2.2.2.1,.vB x.2.1.2.2.2.2.1,.own 4,.vB x.2.1.2.2.2.2.2.2.1,.vS x.2.1.2.2.2.2.2.2.2.1,.vB x.2.1.2.2.2.2.2.2.2.2.1,.vB x.2.1.2.2.2.2.2.2.2.2.2.1,.vI x.2.1.2.2.2.2.2.2.2.2.2.2.1,.vB x.2.1.2.2.2.2.2.2.2.2.2.2.2.1,.vI x.2.1.2.2.2.2.2.2.2.2.2.2.2.2.1,.vB x.2.1.2.2.2.2.2.2.2.2.2.2.2.2.2.1,.vI x.2.1.2.2.2.2.2.2.2.2.2.2.2.2.2.2.1],.view .node x.2.2.1,.view .node x.2.2.2.1,.dead,.row .str 9 r_1]⟩)) r
def zab_d1:=(dQS (qAa (dSO 0 (dH 0 0)) (qAa (dSO 1 (dO 1)) (qAa (dSO 2 dZ) dNil))) (qAa (qAp 51 (qAa (dO 2) (qAa dS (qAa dB (qAa dS (qAa dB (qAa (dO 3) (qAa dB (qAa dS (qAa dB (qAa dB (qAa dZ (qAa dB (qAa dZ (qAa dB (qAa dZ dNil)))))))))))))))) (qAa (qAz .node) (qAa (qAz .node) (qAa (dRow .str 9) dNil)))))
def zab_l1:SubQ:=mkL zab_d1 (fun x=>zab_p1 x.1.2.2.1 x.2.2.1) fun x r R kn kx kr=>kr ⟨[sL 6 (.vB r.1)],[],[.cells 51 [.own 2,.vS x.2.1.2.1,.vB x.2.1.2.2.1,.vS x.2.1.2.2.2.1,.vB x.2.1.2.2.2.2.1,.own 4,.vB x.2.1.2.2.2.2.2.2.1,.vS x.2.1.2.2.2.2.2.2.2.1,.vB x.2.1.2.2.2.2.2.2.2.2.1,.vB x.2.1.2.2.2.2.2.2.2.2.2.1,.vI x.2.1.2.2.2.2.2.2.2.2.2.2.1,.vB x.2.1.2.2.2.2.2.2.2.2.2.2.2.1,.vI x.2.1.2.2.2.2.2.2.2.2.2.2.2.2.1,.vB x.2.1.2.2.2.2.2.2.2.2.2.2.2.2.2.1,.vI x.2.1.2.2.2.2.2.2.2.2.2.2.2.2.2.2.1],.view .node x.2.2.1,.view .node x.2.2.2.1,.dead,.row .str 9 r.2]⟩
def zab_L:Nat→SubQ:=tblL [(0,zab_l0),(1,zab_l1)]
theorem zab_sub0:qBb zab_L zab_G 4 31 64 0 zab_b0:=qAr (show zab_L 0=zab_l0 from by kernel_rfl) fun x R kn kx kr=>qAs (step:=fun y=>qD3 x.1.2.2.2.1 y.1 x.2.2.1 x.2.2.2.2.2.1 y.2) (enc:=fun (y:Int × (List BA))=>zab_d0.e ((x.1.1,x.1.2.1,x.1.2.2.1,x.1.2.2.2.1,y.1,x.1.2.2.2.2.2),(x.2.1,x.2.2.1,x.2.2.2.1,x.2.2.2.2.1,x.2.2.2.2.2.1,y.2,x.2.2.2.2.2.2.2))) (fun y=>by kernel_rfl) (fun y ki=>by simp only [qD3,-eq_self,qAc,qAf,obA,obS,slL,slR,qAd]; kernel_rfl) (x.1.2.2.2.2.1,x.2.2.2.2.2.2.1)
theorem zab_sub1:qBb zab_L zab_G 4 31 64 1 zab_b1:=qAr (show zab_L 1=zab_l1 from by kernel_rfl) fun x R kn kx kr=>by
 simp only [zab_p1,-eq_self,qAc,qAf,obA,obS,slL,slR,qAd]
 kernel_rfl
theorem zab_subs:qAq zab_L zab_G 4 31 64 zab_q:=qAk (show qAt zab_L zab_G 4 31 64 [(0,zab_b0),(1,zab_b1)] from ⟨zab_sub0,zab_sub1,tV⟩)
def zab_da:=(qAa (dVC (dCO (dH 0 0))) (qAa (dVC (dCO (dO 1))) (qAa (dVC (dCO dZ)) dNil)))
def zab_db:=(qAa (qAp 51 (qAa (dO 2) (qAa dS (qAa dB (qAa dS (qAa dB (qAa (dO 3) (qAa dB (qAa dS (qAa dB (qAa dB (qAa dZ (qAa dB (qAa dZ (qAa dB (qAa dZ dNil)))))))))))))))) (qAa (qAz .node) (qAa (qAz .node) (qAa (dRow .str 9) dNil))))
def zab_c:CS:=mkC zab_da zab_db (fun x y=>zab_s (⟨y.2.2.1,y.1.2.1,y.1.2.2.1,y.1.2.2.2.1,y.1.2.2.2.2.1,y.2.2.2.1,y.1.2.2.2.2.2.2.1,y.1.2.2.2.2.2.2.2.1,y.1.2.2.2.2.2.2.2.2.1,(⟨y.1.2.2.2.2.2.2.2.2.2.1,y.1.2.2.2.2.2.2.2.2.2.2.1⟩:qG7),(⟨y.1.2.2.2.2.2.2.2.2.2.2.2.1,y.1.2.2.2.2.2.2.2.2.2.2.2.2.1⟩:qG7),(⟨y.1.2.2.2.2.2.2.2.2.2.2.2.2.2.1,y.1.2.2.2.2.2.2.2.2.2.2.2.2.2.2.1⟩:qG7)⟩:qG3) y.2.1 x.2.2.1) (fun x y r=>.c (.o (.vB r.2))) fun x y r=>[.cells 51 [.own 2,.vS r.1.iss,.vB r.1.hasIss,.vS r.1.sub,.vB r.1.hasSub,.own 4,.vB r.1.hasAud,.vS r.1.jti,.vB r.1.hasJti,.vB r.1.exp_.has,.vI r.1.exp_.at_,.vB r.1.nbf.has,.vI r.1.nbf.at_,.vB r.1.iat.has,.vI r.1.iat.at_],.view .node y.2.1,.view .node y.2.2.1,.dead,.row .str 9 r.1.aud]
theorem zab_val:qAl Tryd.prog 84 zab_c:=qAn zab_chk 31 zab_Gok 4 (fun x=>Nat.le_of_ble_eq_true rfl) (fun y=>rfl) zab_subs fun x y=>by
 simp only [zab_s,-eq_self,qAc,qAf,obA,obS,slL,slR,qAd]
 kernel_rfl
def zab_w:CQ:=qB3 [(0,some 0,some (.node,46)),(0,some 5,some (.str,9)),(1,none,some (.node,46))] (qB1 [true,false,false,true] zab_c)
theorem zab_ok:qAg Tryd.prog 84 zab_w:=qAy zab_val
def zac_q:IQ:=(.seq (rg 6 [oP 6 (.mv vF)]) (.seq (rg 0 [oM 11 t1,oM 12 t2,oP 13 (.iaddr 6 t11 t12),oP 14 (.load (some 6) t13),oP 7 (.alloc 46 [.int .i64 0,.string ⟨#[]⟩,.string ⟨#[]⟩,.bool false,.int .i64 0,.int .i64 0]),oN (.store 6 t7 t14)]) (.seq (rg 8 [oP 8 (.mv (.v (.pointer none)))]) (.seq (rg 9 [oP 9 (.mv (.v (.pointer none)))]) (.seq (rg 10 [oP 10 (.mv (.v (.pointer none)))]) (.seq (.seq (rg 16 [oP 15 (.faddr 1 t7),oP 16 (.load none t15)]) (.block 0 (.seq (rg 17 [oP 18 (.bi .eql t16 (.v (.string ⟨#[105,115,115]⟩))),oM 17 t18]) (.cond t17 (.reg 9 (some [0,1,2,3,4,5,6,7]) [oM 19 t0,oP 20 (.nk t19),oP 21 (.faddr 1 t20),oM 22 t0,oP 23 (.nk t22),oP 24 (.faddr 2 t23),oM 8 t21,oM 9 t24]) (.seq (rg 25 [oP 26 (.bi .eql t16 (.v (.string ⟨#[115,117,98]⟩))),oM 25 t26]) (.cond t25 (.reg 9 (some [0,1,2,3,4,5,6,7]) [oM 27 t0,oP 28 (.nk t27),oP 29 (.faddr 3 t28),oM 30 t0,oP 31 (.nk t30),oP 32 (.faddr 4 t31),oM 8 t29,oM 9 t32]) (.seq (rg 33 [oP 34 (.bi .eql t16 (.v (.string ⟨#[106,116,105]⟩))),oM 33 t34]) (.cond t33 (.reg 9 (some [0,1,2,3,4,5,6,7]) [oM 35 t0,oP 36 (.nk t35),oP 37 (.faddr 7 t36),oM 38 t0,oP 39 (.nk t38),oP 40 (.faddr 8 t39),oM 8 t37,oM 9 t40]) (.seq (rg 41 [oP 42 (.bi .eql t16 (.v (.string ⟨#[101,120,112]⟩))),oM 41 t42]) (.cond t41 (rg 10 [oM 43 t0,oP 44 (.nk t43),oP 45 (.faddr 9 t44),oM 10 t45]) (.seq (rg 46 [oP 47 (.bi .eql t16 (.v (.string ⟨#[110,98,102]⟩))),oM 46 t47]) (.cond t46 (rg 10 [oM 48 t0,oP 49 (.nk t48),oP 50 (.faddr 11 t49),oM 10 t50]) (.seq (rg 51 [oP 52 (.bi .eql t16 (.v (.string ⟨#[105,97,116]⟩))),oM 51 t52]) (.cond t51 (rg 10 [oM 53 t0,oP 54 (.nk t53),oP 55 (.faddr 13 t54),oM 10 t55]) .skip)))))))))))))) (.seq (.block 1 (.seq (rg 56 [oM 57 t8,oP 58 (.ext (.ptrEq true) [t57,(.v (.pointer none))]),oM 56 t58]) (.cond t56 (.seq (rg 0 [oM 59 t8,oM 60 t9,oP 61 (.faddr 2 t7),oP 62 (.load none t61),oP 63 (.nk t59),oN (.store 1 t63 t62),oP 64 (.nk t60),oN (.store 1 t64 vT)]) (.seq (rg 6 [oP 65 (.faddr 0 t7),oP 66 (.load none t65),oP 67 (.bi .eql t66 (vI 5)),oM 6 t67]) (.canon [(1000000,some 5,.u8,0),(3000003,none,.u8,0)] [6] .ret))) (.seq (rg 68 [oM 69 t10,oP 70 (.ext (.ptrEq true) [t69,(.v (.pointer none))]),oM 68 t70]) (.cond t68 (.seq (rg 0 [oM 71 t10,oP 72 (.faddr 4 t7),oP 73 (.load none t72),oP 74 (.build [.bool false,.int .i64 0] [(0,1,vT),(1,1,t73)]),oP 75 (.nk t71),oN (.store 2 t75 t74)]) (.seq (rg 6 [oP 76 (.faddr 0 t7),oP 77 (.load none t76),oP 78 (.bi .eql t77 (vI 4)),oM 79 t78,oF 80 (.faddr 3 t7) 79,oF 81 (.load none t80) 79,oP 82 (.pick t79 t81 vF),oM 6 t82]) (.canon [(1000000,some 5,.u8,0),(3000003,none,.u8,0)] [6] .ret))) (.seq (rg 83 [oP 84 (.faddr 1 t7),oP 85 (.load none t84),oP 86 (.bi .eql t85 (.v (.string ⟨#[97,117,100]⟩))),oM 83 t86]) (.cond t83 (.seq (rg 6 [oM 87 t0,oM 88 t1,oM 89 t2,oP 90 (.call 84 [t87,t88,t89]),oM 6 t90]) (.canon [(1000000,some 5,.u8,0),(3000003,none,.u8,0)] [6] .ret)) .skip))))))) (.seq (rg 6 [oP 6 (.mv vT)]) (.canon [(1000000,some 5,.u8,0),(3000003,none,.u8,0)] [6] .ret)))))))))
theorem zac_chk:chk Tryd.prog 57 []=some (zac_q.erase,[.tmp 6],91):=by kernel_rfl
def zac_s (c:qG3) (v:(List Eng.Node)) (at_:Int):Option (qG3 × Bool) :=
 gd (0≤at_∧at_<v.length) <|
 gd ((Int.toNat at_)<v.length) <|
 bif decide (((v.getD (Int.toNat at_) (ET.dft .node)).key)=(⟨#[105,115,115]⟩:BA)) then (
  some ((⟨c.value,(v.getD (Int.toNat at_) (ET.dft .node)).text,true,c.sub,c.hasSub,c.aud,c.hasAud,c.jti,c.hasJti,c.exp_,c.nbf,c.iat⟩:qG3),decide (((v.getD (Int.toNat at_) (ET.dft .node)).kind)=(5:Int))))
 else (
  bif decide (((v.getD (Int.toNat at_) (ET.dft .node)).key)=(⟨#[115,117,98]⟩:BA)) then (
   some ((⟨c.value,c.iss,c.hasIss,(v.getD (Int.toNat at_) (ET.dft .node)).text,true,c.aud,c.hasAud,c.jti,c.hasJti,c.exp_,c.nbf,c.iat⟩:qG3),decide (((v.getD (Int.toNat at_) (ET.dft .node)).kind)=(5:Int))))
  else (
   bif decide (((v.getD (Int.toNat at_) (ET.dft .node)).key)=(⟨#[106,116,105]⟩:BA)) then (
    some ((⟨c.value,c.iss,c.hasIss,c.sub,c.hasSub,c.aud,c.hasAud,(v.getD (Int.toNat at_) (ET.dft .node)).text,true,c.exp_,c.nbf,c.iat⟩:qG3),decide (((v.getD (Int.toNat at_) (ET.dft .node)).kind)=(5:Int))))
   else (
    bif decide (((v.getD (Int.toNat at_) (ET.dft .node)).key)=(⟨#[101,120,112]⟩:BA)) then (
     some ((⟨c.value,c.iss,c.hasIss,c.sub,c.hasSub,c.aud,c.hasAud,c.jti,c.hasJti,(⟨true,(v.getD (Int.toNat at_) (ET.dft .node)).int⟩:qG7),c.nbf,c.iat⟩:qG3),((decide (((v.getD (Int.toNat at_) (ET.dft .node)).kind)=(4:Int))) && ((v.getD (Int.toNat at_) (ET.dft .node)).whole))))
    else (
     bif decide (((v.getD (Int.toNat at_) (ET.dft .node)).key)=(⟨#[110,98,102]⟩:BA)) then (
      some ((⟨c.value,c.iss,c.hasIss,c.sub,c.hasSub,c.aud,c.hasAud,c.jti,c.hasJti,c.exp_,(⟨true,(v.getD (Int.toNat at_) (ET.dft .node)).int⟩:qG7),c.iat⟩:qG3),((decide (((v.getD (Int.toNat at_) (ET.dft .node)).kind)=(4:Int))) && ((v.getD (Int.toNat at_) (ET.dft .node)).whole))))
     else (
      bif decide (((v.getD (Int.toNat at_) (ET.dft .node)).key)=(⟨#[105,97,116]⟩:BA)) then (
       some ((⟨c.value,c.iss,c.hasIss,c.sub,c.hasSub,c.aud,c.hasAud,c.jti,c.hasJti,c.exp_,c.nbf,(⟨true,(v.getD (Int.toNat at_) (ET.dft .node)).int⟩:qG7)⟩:qG3),((decide (((v.getD (Int.toNat at_) (ET.dft .node)).kind)=(4:Int))) && ((v.getD (Int.toNat at_) (ET.dft .node)).whole))))
      else (
       bif decide (((v.getD (Int.toNat at_) (ET.dft .node)).key)=(⟨#[97,117,100]⟩:BA)) then (
        (zab_s c v at_).bind fun r2 =>
        some ((⟨c.value,r2.1.iss,r2.1.hasIss,r2.1.sub,r2.1.hasSub,r2.1.aud,r2.1.hasAud,r2.1.jti,r2.1.hasJti,r2.1.exp_,r2.1.nbf,r2.1.iat⟩:qG3),r2.2))
       else (
        some (c,true))))))))
def zac_G:Nat→Option CQ:=tblQ [(84,zab_w)]
theorem zac_Gok:∀f C,zac_G f=some C→qAg Tryd.prog f C:=qAi ⟨zab_ok,tV⟩
def zac_L:Nat→SubQ:=tblL []
theorem zac_subs:qAq zac_L zac_G 4 17 91 zac_q:=qAk (show qAt zac_L zac_G 4 17 91 [] from tV)
def zac_da:=(qAa (dVC (dCO (dH 0 0))) (qAa (dVC (dCO (dO 1))) (qAa (dVC (dCO dZ)) dNil)))
def zac_db:=(qAa (qAp 51 (qAa (dO 2) (qAa dS (qAa dB (qAa dS (qAa dB (qAa (dO 3) (qAa dB (qAa dS (qAa dB (qAa dB (qAa dZ (qAa dB (qAa dZ (qAa dB (qAa dZ dNil)))))))))))))))) (qAa (qAz .node) (qAa (qAz .node) (qAa (dRow .str 9) dNil))))
def zac_c:CS:=mkC zac_da zac_db (fun x y=>zac_s (⟨y.2.2.1,y.1.2.1,y.1.2.2.1,y.1.2.2.2.1,y.1.2.2.2.2.1,y.2.2.2.1,y.1.2.2.2.2.2.2.1,y.1.2.2.2.2.2.2.2.1,y.1.2.2.2.2.2.2.2.2.1,(⟨y.1.2.2.2.2.2.2.2.2.2.1,y.1.2.2.2.2.2.2.2.2.2.2.1⟩:qG7),(⟨y.1.2.2.2.2.2.2.2.2.2.2.2.1,y.1.2.2.2.2.2.2.2.2.2.2.2.2.1⟩:qG7),(⟨y.1.2.2.2.2.2.2.2.2.2.2.2.2.2.1,y.1.2.2.2.2.2.2.2.2.2.2.2.2.2.2.1⟩:qG7)⟩:qG3) y.2.1 x.2.2.1) (fun x y r=>.c (.o (.vB r.2))) fun x y r=>[.cells 51 [.own 2,.vS r.1.iss,.vB r.1.hasIss,.vS r.1.sub,.vB r.1.hasSub,.own 4,.vB r.1.hasAud,.vS r.1.jti,.vB r.1.hasJti,.vB r.1.exp_.has,.vI r.1.exp_.at_,.vB r.1.nbf.has,.vI r.1.nbf.at_,.vB r.1.iat.has,.vI r.1.iat.at_],.view .node y.2.1,.view .node y.2.2.1,.dead,.row .str 9 r.1.aud]
theorem zac_val:qAl Tryd.prog 57 zac_c:=qAn zac_chk 17 zac_Gok 4 (fun x=>Nat.le_of_ble_eq_true rfl) (fun y=>rfl) zac_subs fun x y=>by
 simp only [zac_s,-eq_self,qAc,qAf,obA,obS,slL,slR,qAd]
 kernel_rfl
def zac_w:CQ:=qB3 [(0,some 0,some (.node,46)),(0,some 5,some (.str,9)),(1,none,some (.node,46))] (qB1 [true,false,false,true] zac_c)
theorem zac_ok:qAg Tryd.prog 57 zac_w:=qAy zac_val
def zaa_b0:IQ:=(.loop [2,4,7,27,28,29] (.seq (rg 30 [oP 30 (.bi .lss t29 t28)]) (.seq (.cond t30 .skip (.cn [2,4,7] (.exit 0))) (.seq (.block 1 (.seq (rg 9 [oP 31 (.iaddr 1 t27 t29),oP 32 (.load none t31),oM 9 t32]) (.seq (rg 36 [oM 33 t4,oM 34 t9,oP 35 (.call 57 [t7,t33,t34]),oP 36 (.un .not t35)]) (.cond t36 (.seq (rg 3 [oP 37 (.build [.slice none 0 0,.string ⟨#[]⟩,.bool false,.string ⟨#[]⟩,.bool false,.slice none 0 0,.bool false,.string ⟨#[]⟩,.bool false,.bool false,.int .i64 0,.bool false,.int .i64 0,.bool false,.int .i64 0] []),oN (.store 15 t2 t37),oP 3 (.mv (vI 131))]) (.canon [(2,some 0,.node,46),(2,some 5,.str,9)] [2,3] .ret)) .skip)))) (rg 29 [oP 38 (.bi .add t29 (vI 1)),oM 29 t38])))))
def zaa_q:IQ:=(.seq (rg 3 [oP 2 (.alloc 51 [.slice none 0 0,.string ⟨#[]⟩,.bool false,.string ⟨#[]⟩,.bool false,.slice none 0 0,.bool false,.string ⟨#[]⟩,.bool false,.bool false,.int .i64 0,.bool false,.int .i64 0,.bool false,.int .i64 0]),oP 3 (.mv (vI 0))]) (.seq (rg 6 [oM 11 t0,oP 12 (.call 20 [t11]),oM 10 t12,oP 13 (.extract t10 0),oP 14 (.extract t10 1),oP 15 (.extract t10 2),oM 4 t13,oM 5 t14,oM 6 t15]) (.seq (.seq (rg 17 [oM 16 t5,oP 17 (.bi .neq t16 (vI 0))]) (.cond t17 (.seq (rg 3 [oP 18 (.build [.slice none 0 0,.string ⟨#[]⟩,.bool false,.string ⟨#[]⟩,.bool false,.slice none 0 0,.bool false,.string ⟨#[]⟩,.bool false,.bool false,.int .i64 0,.bool false,.int .i64 0,.bool false,.int .i64 0] []),oM 19 t5,oN (.store 15 t2 t18),oM 3 t19]) (.canon [(2,some 0,.node,46),(2,some 5,.str,9)] [2,3] .ret)) .skip)) (.seq (.seq (rg 24 [oM 20 t4,oP 21 (.iaddr 6 t20 (vI 0)),oP 22 (.faddr 0 t21),oP 23 (.load none t22),oP 24 (.bi .neq t23 (vI 7))]) (.cond t24 (.seq (rg 3 [oP 25 (.build [.slice none 0 0,.string ⟨#[]⟩,.bool false,.string ⟨#[]⟩,.bool false,.slice none 0 0,.bool false,.string ⟨#[]⟩,.bool false,.bool false,.int .i64 0,.bool false,.int .i64 0,.bool false,.int .i64 0] []),oN (.store 15 t2 t25),oP 3 (.mv (vI 130))]) (.canon [(2,some 0,.node,46),(2,some 5,.str,9)] [2,3] .ret)) .skip)) (.seq (rg 7 [oP 7 (.alloc 51 [.slice none 0 0,.string ⟨#[]⟩,.bool false,.string ⟨#[]⟩,.bool false,.slice none 0 0,.bool false,.string ⟨#[]⟩,.bool false,.bool false,.int .i64 0,.bool false,.int .i64 0,.bool false,.int .i64 0])]) (.seq (.seq (rg 29 [oM 26 t4,oP 27 (.call 29 [t26,(vI 0)]),oP 28 (.len t27),oP 29 (.mv (vI 0))]) (.block 0 (.canon [(7,some 0,.node,46),(7,some 5,.str,9)] [2,4,7,27,28,29] (.sub 0 zaa_b0)))) (.seq (rg 0 [oM 39 t4,oP 40 (.faddr 0 t7),oN (.store 1 t40 t39)]) (.seq (rg 3 [oP 41 (.load (some 15) t7),oN (.store 15 t2 t41),oP 3 (.mv (vI 0))]) (.canon [(2,some 0,.node,46),(2,some 5,.str,9)] [2,3] .ret)))))))))
theorem zaa_chk:chk Tryd.prog 23 []=some (zaa_q.erase,[.cell 2 (some 15),.tmp 3],42):=by kernel_rfl
def qEa (x28_ x29_:Int) (v:List Eng.Node) (qHw:BA) (qHj:Bool) (qHx:BA) (qHk qHl:Bool) (qHy:BA) (qHm qHf:Bool) (qHn:Int) (qHg:Bool) (qHo:Int) (qHh:Bool) (qHp:Int) (x27_:List Int) (qHv:List Eng.Node) (qHb:List BA):Option ((Int × BA × Bool × BA × Bool × Bool × BA × Bool × Bool × Int × Bool × Int × Bool × Int × (List BA)) ⊕ ((Int × BA × Bool × BA × Bool × Bool × BA × Bool × Bool × Int × Bool × Int × Bool × Int × (List Eng.Node) × (List BA)) ⊕ (BA × Bool × BA × Bool × Bool × BA × Bool × Bool × Int × Bool × Int × Bool × Int × (List BA)))) :=
 bif decide (x29_<x28_) then (
  gd (0≤x29_∧x29_<x27_.length) <|
  gd ((Int.toNat x29_)<x27_.length) <|
  (zac_s (⟨qHv,qHw,qHj,qHx,qHk,qHb,qHl,qHy,qHm,(⟨qHf,qHn⟩:qG7),(⟨qHg,qHo⟩:qG7),(⟨qHh,qHp⟩:qG7)⟩:qG3) v (x27_.getD (Int.toNat x29_) (ET.dft .i64))).bind fun r54 =>
  bif (!r54.2) then (
   some (.inr (.inl ((131:Int),(⟨#[]⟩:BA),false,(⟨#[]⟩:BA),false,false,(⟨#[]⟩:BA),false,false,(0:Int),false,(0:Int),false,(0:Int),[],[]))))
  else (
   gd (qAe (x29_+(1:Int))) <|
   some (.inl ((x29_+(1:Int)),r54.1.iss,r54.1.hasIss,r54.1.sub,r54.1.hasSub,r54.1.hasAud,r54.1.jti,r54.1.hasJti,r54.1.exp_.has,r54.1.exp_.at_,r54.1.nbf.has,r54.1.nbf.at_,r54.1.iat.has,r54.1.iat.at_,r54.1.aud))))
 else (
  some (.inr (.inr (qHw,qHj,qHx,qHk,qHl,qHy,qHm,qHf,qHn,qHg,qHo,qHh,qHp,qHb))))
def zaa_p0 (x28_ x29_:Int) (v:List Eng.Node) (qHw:BA) (qHj:Bool) (qHx:BA) (qHk qHl:Bool) (qHy:BA) (qHm qHf:Bool) (qHn:Int) (qHg:Bool) (qHo:Int) (qHh:Bool) (qHp:Int) (x27_:List Int) (qHv:List Eng.Node) (qHb:List BA):Option ((Int × BA × Bool × BA × Bool × Bool × BA × Bool × Bool × Int × Bool × Int × Bool × Int × (List Eng.Node) × (List BA)) ⊕ (BA × Bool × BA × Bool × Bool × BA × Bool × Bool × Int × Bool × Int × Bool × Int × (List BA))) :=
 qA6 (fun x:(Int × BA × Bool × BA × Bool × Bool × BA × Bool × Bool × Int × Bool × Int × Bool × Int × (List BA))=>qEa x28_ x.1 v x.2.1 x.2.2.1 x.2.2.2.1 x.2.2.2.2.1 x.2.2.2.2.2.1 x.2.2.2.2.2.2.1 x.2.2.2.2.2.2.2.1 x.2.2.2.2.2.2.2.2.1 x.2.2.2.2.2.2.2.2.2.1 x.2.2.2.2.2.2.2.2.2.2.1 x.2.2.2.2.2.2.2.2.2.2.2.1 x.2.2.2.2.2.2.2.2.2.2.2.2.1 x.2.2.2.2.2.2.2.2.2.2.2.2.2.1 x27_ qHv x.2.2.2.2.2.2.2.2.2.2.2.2.2.2) (x29_,qHw,qHj,qHx,qHk,qHl,qHy,qHm,qHf,qHn,qHg,qHo,qHh,qHp,qHb)
def zaa_s (payload:BA):Option (qG3 × Int) :=
 (zak_s payload).bind fun r52 =>
 bif (!decide (r52.2.1=(0:Int))) then (
  some ((⟨[],(⟨#[]⟩:BA),false,(⟨#[]⟩:BA),false,[],false,(⟨#[]⟩:BA),false,(⟨false,(0:Int)⟩:qG7),(⟨false,(0:Int)⟩:qG7),(⟨false,(0:Int)⟩:qG7)⟩:qG3),r52.2.1))
 else (
  gd (0≤(0:Int)∧(0:Int)<r52.1.length) <|
  gd ((Int.toNat (0:Int))<r52.1.length) <|
  gd ((Int.toNat (0:Int))<r52.1.length) <|
  bif (!decide (((r52.1.getD (Int.toNat (0:Int)) (ET.dft .node)).kind)=(7:Int))) then (
   some ((⟨[],(⟨#[]⟩:BA),false,(⟨#[]⟩:BA),false,[],false,(⟨#[]⟩:BA),false,(⟨false,(0:Int)⟩:qG7),(⟨false,(0:Int)⟩:qG7),(⟨false,(0:Int)⟩:qG7)⟩:qG3),(130:Int)))
  else (
   (zaj_s r52.1 (0:Int)).bind fun r53 =>
   (zaa_p0 (r53.length:Int) (0:Int) r52.1 (⟨#[]⟩:BA) false (⟨#[]⟩:BA) false false (⟨#[]⟩:BA) false false (0:Int) false (0:Int) false (0:Int) r53 [] []).bind fun o55=>(Sum.elim (fun (o55_0:Int × BA × Bool × BA × Bool × Bool × BA × Bool × Bool × Int × Bool × Int × Bool × Int × (List Eng.Node) × (List BA)) =>
    some ((⟨o55_0.2.2.2.2.2.2.2.2.2.2.2.2.2.2.1,o55_0.2.1,o55_0.2.2.1,o55_0.2.2.2.1,o55_0.2.2.2.2.1,o55_0.2.2.2.2.2.2.2.2.2.2.2.2.2.2.2,o55_0.2.2.2.2.2.1,o55_0.2.2.2.2.2.2.1,o55_0.2.2.2.2.2.2.2.1,(⟨o55_0.2.2.2.2.2.2.2.2.1,o55_0.2.2.2.2.2.2.2.2.2.1⟩:qG7),(⟨o55_0.2.2.2.2.2.2.2.2.2.2.1,o55_0.2.2.2.2.2.2.2.2.2.2.2.1⟩:qG7),(⟨o55_0.2.2.2.2.2.2.2.2.2.2.2.2.1,o55_0.2.2.2.2.2.2.2.2.2.2.2.2.2.1⟩:qG7)⟩:qG3),o55_0.1)) (fun (o55_1:BA × Bool × BA × Bool × Bool × BA × Bool × Bool × Int × Bool × Int × Bool × Int × (List BA)) =>
    some ((⟨r52.1,o55_1.1,o55_1.2.1,o55_1.2.2.1,o55_1.2.2.2.1,o55_1.2.2.2.2.2.2.2.2.2.2.2.2.2,o55_1.2.2.2.2.1,o55_1.2.2.2.2.2.1,o55_1.2.2.2.2.2.2.1,(⟨o55_1.2.2.2.2.2.2.2.1,o55_1.2.2.2.2.2.2.2.2.1⟩:qG7),(⟨o55_1.2.2.2.2.2.2.2.2.2.1,o55_1.2.2.2.2.2.2.2.2.2.2.1⟩:qG7),(⟨o55_1.2.2.2.2.2.2.2.2.2.2.2.1,o55_1.2.2.2.2.2.2.2.2.2.2.2.2.1⟩:qG7)⟩:qG3),(0:Int)))) o55))
def zaa_G:Nat→Option CQ:=tblQ [(20,zak_w),(29,zaj_w),(57,zac_w)]
theorem zaa_Gok:∀f C,zaa_G f=some C→qAg Tryd.prog f C:=qAi ⟨zak_ok,zaj_ok,zac_ok,tV⟩
def zaa_d0:=(dQS (qAa (dSO 2 (dH 0 0)) (qAa (dSO 4 (dO 1)) (qAa (dSO 7 (dH 2 0)) (qAa (dSO 27 (dO 3)) (qAa (dSO 28 dZ) (qAa (dSO 29 dZ) dNil)))))) (qAa (qAp 51 (qAa dNS (qAa dS (qAa dB (qAa dS (qAa dB (qAa dNS (qAa dB (qAa dS (qAa dB (qAa dB (qAa dZ (qAa dB (qAa dZ (qAa dB (qAa dZ dNil)))))))))))))))) (qAa (dRow .node 46) (qAa (qAp 51 (qAa (dO 4) (qAa dS (qAa dB (qAa dS (qAa dB (qAa (dO 5) (qAa dB (qAa dS (qAa dB (qAa dB (qAa dZ (qAa dB (qAa dZ (qAa dB (qAa dZ dNil)))))))))))))))) (qAa (dRow .i64 3) (qAa (dRow .node 46) (qAa (dRow .str 9) dNil)))))))
def zaa_l0:SubQ:=mkL zaa_d0 (fun x=>zaa_p0 x.1.2.2.2.2.1 x.1.2.2.2.2.2.1 x.2.2.1 x.2.2.2.1.2.1 x.2.2.2.1.2.2.1 x.2.2.2.1.2.2.2.1 x.2.2.2.1.2.2.2.2.1 x.2.2.2.1.2.2.2.2.2.2.1 x.2.2.2.1.2.2.2.2.2.2.2.1 x.2.2.2.1.2.2.2.2.2.2.2.2.1 x.2.2.2.1.2.2.2.2.2.2.2.2.2.1 x.2.2.2.1.2.2.2.2.2.2.2.2.2.2.1 x.2.2.2.1.2.2.2.2.2.2.2.2.2.2.2.1 x.2.2.2.1.2.2.2.2.2.2.2.2.2.2.2.2.1 x.2.2.2.1.2.2.2.2.2.2.2.2.2.2.2.2.2.1 x.2.2.2.1.2.2.2.2.2.2.2.2.2.2.2.2.2.2.1 x.2.2.2.2.1 x.2.2.2.2.2.1 x.2.2.2.2.2.2.1) fun x r R kn kx kr=>(Sum.elim (fun (r_0:Int × BA × Bool × BA × Bool × Bool × BA × Bool × Bool × Int × Bool × Int × Bool × Int × (List Eng.Node) × (List BA))=>kr ⟨[sL 2 (.hd 0 0),sL 3 (.vI r_0.1)],[],[.cells 51 [.own 1,.vS r_0.2.1,.vB r_0.2.2.1,.vS r_0.2.2.2.1,.vB r_0.2.2.2.2.1,.own 2,.vB r_0.2.2.2.2.2.1,.vS r_0.2.2.2.2.2.2.1,.vB r_0.2.2.2.2.2.2.2.1,.vB r_0.2.2.2.2.2.2.2.2.1,.vI r_0.2.2.2.2.2.2.2.2.2.1,.vB r_0.2.2.2.2.2.2.2.2.2.2.1,.vI r_0.2.2.2.2.2.2.2.2.2.2.2.1,.vB r_0.2.2.2.2.2.2.2.2.2.2.2.2.1,.vI r_0.2.2.2.2.2.2.2.2.2.2.2.2.2.1],.row .node 46 r_0.2.2.2.2.2.2.2.2.2.2.2.2.2.2.1,.row .str 9 r_0.2.2.2.2.2.2.2.2.2.2.2.2.2.2.2]⟩) (fun (r_1:BA × Bool × BA × Bool × Bool × BA × Bool × Bool × Int × Bool × Int × Bool × Int × (List BA))=>kx 0 ⟨[sL 2 (.hd 0 0),sL 4 (.own 1),sL 7 (.hd 2 0)],[],[.cells 51 [.val (.slice none 0 0),.vS x.2.1.2.1,.vB x.2.1.2.2.1,.vS x.2.1.2.2.2.1,.vB x.2.1.2.2.2.2.1,.val (.slice none 0 0),.vB x.2.1.2.2.2.2.2.2.1,.vS x.2.1.2.2.2.2.2.2.2.1,.vB x.2.1.2.2.2.2.2.2.2.2.1,.vB x.2.1.2.2.2.2.2.2.2.2.2.1,.vI x.2.1.2.2.2.2.2.2.2.2.2.2.1,.vB x.2.1.2.2.2.2.2.2.2.2.2.2.2.1,.vI x.2.1.2.2.2.2.2.2.2.2.2.2.2.2.1,.vB x.2.1.2.2.2.2.2.2.2.2.2.2.2.2.2.1,.vI x.2.1.2.2.2.2.2.2.2.2.2.2.2.2.2.2.1],.row .node 46 x.2.2.1,.cells 51 [.own 3,.vS r_1.1,.vB r_1.2.1,.vS r_1.2.2.1,.vB r_1.2.2.2.1,.own 4,.vB r_1.2.2.2.2.1,.vS r_1.2.2.2.2.2.1,.vB r_1.2.2.2.2.2.2.1,.vB r_1.2.2.2.2.2.2.2.1,.vI r_1.2.2.2.2.2.2.2.2.1,.vB r_1.2.2.2.2.2.2.2.2.2.1,.vI r_1.2.2.2.2.2.2.2.2.2.2.1,.vB r_1.2.2.2.2.2.2.2.2.2.2.2.1,.vI r_1.2.2.2.2.2.2.2.2.2.2.2.2.1],.row .node 46 x.2.2.2.2.2.1,.row .str 9 r_1.2.2.2.2.2.2.2.2.2.2.2.2.2]⟩)) r
def zaa_L:Nat→SubQ:=tblL [(0,zaa_l0)]
theorem zaa_sub0:qBb zaa_L zaa_G 0 30 42 0 zaa_b0:=qAr (show zaa_L 0=zaa_l0 from by kernel_rfl) fun x R kn kx kr=>qAs (step:=fun y=>qEa x.1.2.2.2.2.1 y.1 x.2.2.1 y.2.1 y.2.2.1 y.2.2.2.1 y.2.2.2.2.1 y.2.2.2.2.2.1 y.2.2.2.2.2.2.1 y.2.2.2.2.2.2.2.1 y.2.2.2.2.2.2.2.2.1 y.2.2.2.2.2.2.2.2.2.1 y.2.2.2.2.2.2.2.2.2.2.1 y.2.2.2.2.2.2.2.2.2.2.2.1 y.2.2.2.2.2.2.2.2.2.2.2.2.1 y.2.2.2.2.2.2.2.2.2.2.2.2.2.1 x.2.2.2.2.1 x.2.2.2.2.2.1 y.2.2.2.2.2.2.2.2.2.2.2.2.2.2) (enc:=fun (y:Int × BA × Bool × BA × Bool × Bool × BA × Bool × Bool × Int × Bool × Int × Bool × Int × (List BA))=>zaa_d0.e ((x.1.1,x.1.2.1,x.1.2.2.1,x.1.2.2.2.1,x.1.2.2.2.2.1,y.1,x.1.2.2.2.2.2.2),(x.2.1,x.2.2.1,(x.2.2.2.1.1,y.2.1,y.2.2.1,y.2.2.2.1,y.2.2.2.2.1,x.2.2.2.1.2.2.2.2.2.1,y.2.2.2.2.2.1,y.2.2.2.2.2.2.1,y.2.2.2.2.2.2.2.1,y.2.2.2.2.2.2.2.2.1,y.2.2.2.2.2.2.2.2.2.1,y.2.2.2.2.2.2.2.2.2.2.1,y.2.2.2.2.2.2.2.2.2.2.2.1,y.2.2.2.2.2.2.2.2.2.2.2.2.1,y.2.2.2.2.2.2.2.2.2.2.2.2.2.1,x.2.2.2.1.2.2.2.2.2.2.2.2.2.2.2.2.2.2.2),x.2.2.2.2.1,x.2.2.2.2.2.1,y.2.2.2.2.2.2.2.2.2.2.2.2.2.2,x.2.2.2.2.2.2.2))) (fun y=>by kernel_rfl) (fun y ki=>by simp only [qEa,-eq_self,qAc,qAf,obA,obS,slL,slR,qAd]; kernel_rfl) (x.1.2.2.2.2.2.1,x.2.2.2.1.2.1,x.2.2.2.1.2.2.1,x.2.2.2.1.2.2.2.1,x.2.2.2.1.2.2.2.2.1,x.2.2.2.1.2.2.2.2.2.2.1,x.2.2.2.1.2.2.2.2.2.2.2.1,x.2.2.2.1.2.2.2.2.2.2.2.2.1,x.2.2.2.1.2.2.2.2.2.2.2.2.2.1,x.2.2.2.1.2.2.2.2.2.2.2.2.2.2.1,x.2.2.2.1.2.2.2.2.2.2.2.2.2.2.2.1,x.2.2.2.1.2.2.2.2.2.2.2.2.2.2.2.2.1,x.2.2.2.1.2.2.2.2.2.2.2.2.2.2.2.2.2.1,x.2.2.2.1.2.2.2.2.2.2.2.2.2.2.2.2.2.2.1,x.2.2.2.2.2.2.1)
theorem zaa_subs:qAq zaa_L zaa_G 0 30 42 zaa_q:=qAk (show qAt zaa_L zaa_G 0 30 42 [(0,zaa_b0)] from ⟨zaa_sub0,tV⟩)
def zaa_da:=(qAa (dVC (dCO dS)) dNil)
def zaa_db:=(dNil:Dec Unit (List SB))
def zaa_c:CS:=mkC zaa_da zaa_db (fun x y=>zaa_s x.1) (fun x y r=>.tup [.agg [.own 0,.vS r.1.iss,.vB r.1.hasIss,.vS r.1.sub,.vB r.1.hasSub,.own 1,.vB r.1.hasAud,.vS r.1.jti,.vB r.1.hasJti,.vB r.1.exp_.has,.vI r.1.exp_.at_,.vB r.1.nbf.has,.vI r.1.nbf.at_,.vB r.1.iat.has,.vI r.1.iat.at_],.o (.vI r.2)]) fun x y r=>[.row .node 46 r.1.value,.row .str 9 r.1.aud]
theorem zaa_val:qAl Tryd.prog 23 zaa_c:=qAn zaa_chk 30 zaa_Gok 0 (fun x=>Nat.le_of_ble_eq_true rfl) (fun y=>rfl) zaa_subs fun x y=>by
 simp only [zaa_s,-eq_self,qAc,qAf,obA,obS,slL,slR,qAd]
 kernel_rfl
def zaa_w:CQ:=qB1 [] zaa_c
theorem zaa_ok:qAg Tryd.prog 23 zaa_w:=qBe zaa_val
def zbl_q:IQ:=(.seq (rg 6 [oP 4 (.mv (.v (.string ⟨#[]⟩))),oP 5 (.mv vF),oP 6 (.mv vF)]) (.seq (rg 7 [oM 8 t0,oM 9 t1,oP 10 (.call 85 [t8,(vI 0),t9]),oM 7 t10]) (.seq (.seq (rg 12 [oM 11 t7,oP 12 (.bi .lss t11 (vI 0))]) (.cond t12 (.seq (rg 6 [oP 4 (.mv (.v (.string ⟨#[]⟩))),oP 5 (.mv vF),oP 6 (.mv vT)]) (.cn [4,5,6] .ret)) .skip)) (.seq (.seq (rg 18 [oM 13 t0,oM 14 t7,oP 15 (.iaddr 6 t13 t14),oP 16 (.faddr 0 t15),oP 17 (.load none t16),oP 18 (.bi .neq t17 (vI 5))]) (.cond t18 (.seq (rg 6 [oP 4 (.mv (.v (.string ⟨#[]⟩))),oP 5 (.mv vF),oP 6 (.mv vF)]) (.cn [4,5,6] .ret)) .skip)) (.seq (rg 6 [oM 19 t0,oM 20 t7,oP 21 (.iaddr 6 t19 t20),oP 22 (.faddr 2 t21),oP 23 (.load none t22),oM 4 t23,oP 5 (.mv vT),oP 6 (.mv vT)]) (.cn [4,5,6] .ret))))))
theorem zbl_chk:chk Tryd.prog 58 []=some (zbl_q.erase,[.tmp 4,.tmp 5,.tmp 6],24):=by kernel_rfl
def zbl_s (v:(List Eng.Node)) (name:BA):Option (BA × Bool × Bool) :=
 (zbu_s v (0:Int) name).bind fun r1 =>
 bif decide (r1<(0:Int)) then (
  some ((⟨#[]⟩:BA),false,true))
 else (
  gd (0≤r1∧r1<v.length) <|
  gd ((Int.toNat r1)<v.length) <|
  gd ((Int.toNat r1)<v.length) <|
  bif (!decide (((v.getD (Int.toNat r1) (ET.dft .node)).kind)=(5:Int))) then (
   some ((⟨#[]⟩:BA),false,false))
  else (
   gd (0≤r1∧r1<v.length) <|
   gd ((Int.toNat r1)<v.length) <|
   gd ((Int.toNat r1)<v.length) <|
   some ((v.getD (Int.toNat r1) (ET.dft .node)).text,true,true)))
def zbl_G:Nat→Option CQ:=tblQ [(85,zbu_w)]
theorem zbl_Gok:∀f C,zbl_G f=some C→qAg Tryd.prog f C:=qAi ⟨zbu_ok,tV⟩
def zbl_L:Nat→SubQ:=tblL []
theorem zbl_subs:qAq zbl_L zbl_G 1 8 24 zbl_q:=qAk (show qAt zbl_L zbl_G 1 8 24 [] from tV)
def zbl_da:=(qAa (dVC (dCO (dO 0))) (qAa (dVC (dCO dS)) dNil))
def zbl_db:=(qAa (qAz .node) dNil)
def zbl_c:CS:=mkC zbl_da zbl_db (fun x y=>zbl_s y.1 x.2.1) (fun x y r=>.tup [.o (.vS r.1),.o (.vB r.2.1),.o (.vB r.2.2)]) fun x y r=>[.view .node y.1]
theorem zbl_val:qAl Tryd.prog 58 zbl_c:=qAn zbl_chk 8 zbl_Gok 1 (fun x=>Nat.le_of_ble_eq_true rfl) (fun y=>rfl) zbl_subs fun x y=>by
 simp only [zbl_s,-eq_self,qAc,qAf,obA,obS,slL,slR,qAd]
 kernel_rfl
def zbl_w:CQ:=qB3 [(0,none,some (.node,46))] (qC3 [false] zbl_c)
theorem zbl_ok:qAg Tryd.prog 58 zbl_w:=qCi zbl_val
def zbm_b0:IQ:=(.loop [0,8,9,10] (.seq (.seq (rg 40 [oM 37 t10,oM 38 t9,oP 39 (.len t38),oP 40 (.bi .lss t37 t39)]) (.cond t40 .skip (.cn [8] (.exit 0)))) (.seq (.block 1 (.seq (.seq (rg 51 [oM 43 t0,oM 44 t9,oM 45 t10,oP 46 (.iaddr 1 t44 t45),oP 47 (.load none t46),oP 48 (.iaddr 6 t43 t47),oP 49 (.faddr 0 t48),oP 50 (.load none t49),oP 51 (.bi .neq t50 (vI 5))]) (.cond t51 (.seq (rg 6 [oP 4 (.mv (.v (.slice none 0 0))),oP 5 (.mv vF),oP 6 (.mv vF)]) (.canon [(4,none,.str,9)] [4,5,6] .ret)) .skip)) (rg 8 [oM 52 t8,oM 53 t0,oM 54 t9,oM 55 t10,oP 56 (.iaddr 1 t54 t55),oP 57 (.load none t56),oP 58 (.iaddr 6 t53 t57),oP 59 (.faddr 2 t58),oP 60 (.load none t59),oP 61 (.bslice 9 1 1 [.string ⟨#[]⟩] [(0,t60)]),oP 62 (.append 9 1 16 [.string ⟨#[]⟩] t52 t61),oM 8 t62]))) (rg 10 [oM 41 t10,oP 42 (.bi .add t41 (vI 1)),oM 10 t42]))))
def zbm_q:IQ:=(.seq (rg 6 [oP 4 (.mv (.v (.slice none 0 0))),oP 5 (.mv vF),oP 6 (.mv vF)]) (.seq (rg 7 [oM 11 t0,oM 12 t1,oP 13 (.call 85 [t11,(vI 0),t12]),oM 7 t13]) (.seq (.seq (rg 15 [oM 14 t7,oP 15 (.bi .lss t14 (vI 0))]) (.cond t15 (.seq (rg 6 [oP 4 (.mv (.v (.slice none 0 0))),oP 5 (.mv vF),oP 6 (.mv vT)]) (.canon [(4,none,.str,9)] [4,5,6] .ret)) .skip)) (.seq (.seq (rg 21 [oM 16 t0,oM 17 t7,oP 18 (.iaddr 6 t16 t17),oP 19 (.faddr 0 t18),oP 20 (.load none t19),oP 21 (.bi .eql t20 (vI 5))]) (.cond t21 (.seq (rg 6 [oM 22 t0,oM 23 t7,oP 24 (.iaddr 6 t22 t23),oP 25 (.faddr 2 t24),oP 26 (.load none t25),oP 27 (.bslice 9 1 1 [.string ⟨#[]⟩] [(0,t26)]),oM 4 t27,oP 5 (.mv vT),oP 6 (.mv vT)]) (.canon [(4,none,.str,9)] [4,5,6] .ret)) .skip)) (.seq (.seq (rg 33 [oM 28 t0,oM 29 t7,oP 30 (.iaddr 6 t28 t29),oP 31 (.faddr 0 t30),oP 32 (.load none t31),oP 33 (.bi .neq t32 (vI 6))]) (.cond t33 (.seq (rg 6 [oP 4 (.mv (.v (.slice none 0 0))),oP 5 (.mv vF),oP 6 (.mv vF)]) (.canon [(4,none,.str,9)] [4,5,6] .ret)) .skip)) (.seq (rg 8 [oP 8 (.mv (.v (.slice none 0 0)))]) (.seq (rg 9 [oM 34 t0,oM 35 t7,oP 36 (.call 49 [t34,t35]),oM 9 t36]) (.seq (.seq (rg 10 [oP 10 (.mv (vI 0))]) (.block 0 (.canon [(8,none,.str,9)] [0,8,9,10] (.sub 0 zbm_b0)))) (.seq (rg 6 [oM 63 t8,oM 4 t63,oP 5 (.mv vT),oP 6 (.mv vT)]) (.canon [(4,none,.str,9)] [4,5,6] .ret))))))))))
theorem zbm_chk:chk Tryd.prog 59 []=some (zbm_q.erase,[.tmp 4,.tmp 5,.tmp 6],64):=by kernel_rfl
def qEe (i:Int) (v:List Eng.Node) (out:List BA) (l:List Int):Option ((Int × (List BA)) ⊕ ((Bool × Bool × (List BA)) ⊕ ((List BA)))) :=
 bif decide (i<(l.length:Int)) then (
  gd (0≤i∧i<l.length) <|
  gd ((Int.toNat i)<l.length) <|
  gd (0≤(l.getD (Int.toNat i) (ET.dft .i64))∧(l.getD (Int.toNat i) (ET.dft .i64))<v.length) <|
  gd ((Int.toNat (l.getD (Int.toNat i) (ET.dft .i64)))<v.length) <|
  gd ((Int.toNat (l.getD (Int.toNat i) (ET.dft .i64)))<v.length) <|
  bif (!decide (((v.getD (Int.toNat (l.getD (Int.toNat i) (ET.dft .i64))) (ET.dft .node)).kind)=(5:Int))) then (
   some (.inr (.inl (false,false,[]))))
  else (
   gd (0≤i∧i<l.length) <|
   gd ((Int.toNat i)<l.length) <|
   gd (0≤(l.getD (Int.toNat i) (ET.dft .i64))∧(l.getD (Int.toNat i) (ET.dft .i64))<v.length) <|
   gd ((Int.toNat (l.getD (Int.toNat i) (ET.dft .i64)))<v.length) <|
   gd ((Int.toNat (l.getD (Int.toNat i) (ET.dft .i64)))<v.length) <|
   gd (out.length+([(v.getD (Int.toNat (l.getD (Int.toNat i) (ET.dft .i64))) (ET.dft .node)).text]:List BA).length≤9223372036854775807∧(out.length+([(v.getD (Int.toNat (l.getD (Int.toNat i) (ET.dft .i64))) (ET.dft .node)).text]:List BA).length)*16≤140737488355328) <|
   gd (qAe (i+(1:Int))) <|
   some (.inl ((i+(1:Int)),(out++[(v.getD (Int.toNat (l.getD (Int.toNat i) (ET.dft .i64))) (ET.dft .node)).text])))))
 else (
  some (.inr (.inr out)))
def zbm_p0 (i:Int) (v:List Eng.Node) (out:List BA) (l:List Int):Option ((Bool × Bool × (List BA)) ⊕ ((List BA))) :=
 qA6 (fun x:(Int × (List BA))=>qEe x.1 v x.2 l) (i,out)
def zbm_s (v:(List Eng.Node)) (name:BA):Option ((List BA) × Bool × Bool) :=
 (zbu_s v (0:Int) name).bind fun r7 =>
 bif decide (r7<(0:Int)) then (
  some ([],false,true))
 else (
  gd (0≤r7∧r7<v.length) <|
  gd ((Int.toNat r7)<v.length) <|
  gd ((Int.toNat r7)<v.length) <|
  bif decide (((v.getD (Int.toNat r7) (ET.dft .node)).kind)=(5:Int)) then (
   gd (0≤r7∧r7<v.length) <|
   gd ((Int.toNat r7)<v.length) <|
   gd ((Int.toNat r7)<v.length) <|
   some ([(v.getD (Int.toNat r7) (ET.dft .node)).text],true,true))
  else (
   gd (0≤r7∧r7<v.length) <|
   gd ((Int.toNat r7)<v.length) <|
   gd ((Int.toNat r7)<v.length) <|
   bif (!decide (((v.getD (Int.toNat r7) (ET.dft .node)).kind)=(6:Int))) then (
    some ([],false,false))
   else (
    (zbt_s v r7).bind fun r8 =>
    (zbm_p0 (0:Int) v [] r8).bind fun o9=>(Sum.elim (fun (o9_0:Bool × Bool × (List BA)) =>
     some (o9_0.2.2,o9_0.1,o9_0.2.1)) (fun (o9_1:(List BA)) =>
     some (o9_1,true,true))) o9)))
def zbm_G:Nat→Option CQ:=tblQ [(85,zbu_w),(49,zbt_w)]
theorem zbm_Gok:∀f C,zbm_G f=some C→qAg Tryd.prog f C:=qAi ⟨zbu_ok,zbt_ok,tV⟩
def zbm_d0:=(dQS (qAa (dSO 0 (dO 0)) (qAa (dSO 8 (dO 1)) (qAa (dSO 9 (dO 2)) (qAa (dSO 10 dZ) dNil)))) (qAa (qAz .node) (qAa (dRow .str 9) (qAa (dRow .i64 3) dNil))))
def zbm_l0:SubQ:=mkL zbm_d0 (fun x=>zbm_p0 x.1.2.2.2.1 x.2.1 x.2.2.1 x.2.2.2.1) fun x r R kn kx kr=>(Sum.elim (fun (r_0:Bool × Bool × (List BA))=>kr ⟨[sL 4 (.own 1),sL 5 (.vB r_0.1),sL 6 (.vB r_0.2.1)],[],[.view .node x.2.1,.row .str 9 r_0.2.2]⟩) (fun (r_1:(List BA))=>kx 0 ⟨[sL 8 (.own 1)],[],[.view .node x.2.1,.row .str 9 r_1]⟩)) r
def zbm_L:Nat→SubQ:=tblL [(0,zbm_l0)]
theorem zbm_sub0:qBb zbm_L zbm_G 1 11 64 0 zbm_b0:=qAr (show zbm_L 0=zbm_l0 from by kernel_rfl) fun x R kn kx kr=>qAs (step:=fun y=>qEe y.1 x.2.1 y.2 x.2.2.2.1) (enc:=fun (y:Int × (List BA))=>zbm_d0.e ((x.1.1,x.1.2.1,x.1.2.2.1,y.1,x.1.2.2.2.2),(x.2.1,y.2,x.2.2.2))) (fun y=>by kernel_rfl) (fun y ki=>by simp only [qEe,-eq_self,qAc,qAf,obA,obS,slL,slR,qAd]; kernel_rfl) (x.1.2.2.2.1,x.2.2.1)
theorem zbm_subs:qAq zbm_L zbm_G 1 11 64 zbm_q:=qAk (show qAt zbm_L zbm_G 1 11 64 [(0,zbm_b0)] from ⟨zbm_sub0,tV⟩)
def zbm_da:=(qAa (dVC (dCO (dO 0))) (qAa (dVC (dCO dS)) dNil))
def zbm_db:=(qAa (qAz .node) dNil)
def zbm_c:CS:=mkC zbm_da zbm_db (fun x y=>zbm_s y.1 x.2.1) (fun x y r=>.tup [.o (.own 1),.o (.vB r.2.1),.o (.vB r.2.2)]) fun x y r=>[.view .node y.1,.row .str 9 r.1]
theorem zbm_val:qAl Tryd.prog 59 zbm_c:=qAn zbm_chk 11 zbm_Gok 1 (fun x=>Nat.le_of_ble_eq_true rfl) (fun y=>rfl) zbm_subs fun x y=>by
 simp only [zbm_s,-eq_self,qAc,qAf,obA,obS,slL,slR,qAd]
 kernel_rfl
def zbm_w:CQ:=qB3 [(0,none,some (.node,46))] (qB1 [false] zbm_c)
theorem zbm_ok:qAg Tryd.prog 59 zbm_w:=qAy zbm_val
def zbn_q:IQ:=(.seq (rg 5 [oP 4 (.alloc 49 [.bool false,.int .i64 0]),oP 5 (.mv vF)]) (.seq (rg 6 [oM 7 t0,oM 8 t1,oP 9 (.call 85 [t7,(vI 0),t8]),oM 6 t9]) (.seq (.seq (rg 11 [oM 10 t6,oP 11 (.bi .lss t10 (vI 0))]) (.cond t11 (.seq (rg 5 [oP 12 (.build [.bool false,.int .i64 0] []),oN (.store 2 t4 t12),oP 5 (.mv vT)]) (.cn [4,5] .ret)) .skip)) (.seq (.seq (rg 26 [oM 13 t0,oM 14 t6,oP 15 (.iaddr 6 t13 t14),oP 16 (.faddr 0 t15),oP 17 (.load none t16),oP 18 (.bi .neq t17 (vI 4)),oM 19 t18,oE 20 (.mv t0) 19,oE 21 (.mv t6) 19,oE 22 (.iaddr 6 t20 t21) 19,oE 23 (.faddr 3 t22) 19,oE 24 (.load none t23) 19,oE 25 (.un .not t24) 19,oP 26 (.pick t19 vT t25)]) (.cond t26 (.seq (rg 5 [oP 27 (.build [.bool false,.int .i64 0] []),oN (.store 2 t4 t27),oP 5 (.mv vF)]) (.cn [4,5] .ret)) .skip)) (.seq (rg 5 [oM 28 t0,oM 29 t6,oP 30 (.iaddr 6 t28 t29),oP 31 (.faddr 4 t30),oP 32 (.load none t31),oP 33 (.build [.bool false,.int .i64 0] [(0,1,vT),(1,1,t32)]),oN (.store 2 t4 t33),oP 5 (.mv vT)]) (.cn [4,5] .ret))))))
theorem zbn_chk:chk Tryd.prog 60 []=some (zbn_q.erase,[.cell 4 (some 2),.tmp 5],34):=by kernel_rfl
def zbn_s (v:(List Eng.Node)) (name:BA):Option (qG7 × Bool) :=
 (zbu_s v (0:Int) name).bind fun r1 =>
 bif decide (r1<(0:Int)) then (
  some ((⟨false,(0:Int)⟩:qG7),true))
 else (
  gd (0≤r1∧r1<v.length) <|
  gd ((Int.toNat r1)<v.length) <|
  gd ((Int.toNat r1)<v.length) <|
  gd ((!decide (((v.getD (Int.toNat r1) (ET.dft .node)).kind)=(4:Int)))=false→0≤r1∧r1<v.length) <|
  gd ((!decide (((v.getD (Int.toNat r1) (ET.dft .node)).kind)=(4:Int)))=false→(Int.toNat r1)<v.length) <|
  gd ((!decide (((v.getD (Int.toNat r1) (ET.dft .node)).kind)=(4:Int)))=false→(Int.toNat r1)<v.length) <|
  bif ((!decide (((v.getD (Int.toNat r1) (ET.dft .node)).kind)=(4:Int))) || (!((v.getD (Int.toNat r1) (ET.dft .node)).whole))) then (
   some ((⟨false,(0:Int)⟩:qG7),false))
  else (
   gd (0≤r1∧r1<v.length) <|
   gd ((Int.toNat r1)<v.length) <|
   gd ((Int.toNat r1)<v.length) <|
   some ((⟨true,(v.getD (Int.toNat r1) (ET.dft .node)).int⟩:qG7),true)))
def zbn_G:Nat→Option CQ:=tblQ [(85,zbu_w)]
theorem zbn_Gok:∀f C,zbn_G f=some C→qAg Tryd.prog f C:=qAi ⟨zbu_ok,tV⟩
def zbn_L:Nat→SubQ:=tblL []
theorem zbn_subs:qAq zbn_L zbn_G 1 7 34 zbn_q:=qAk (show qAt zbn_L zbn_G 1 7 34 [] from tV)
def zbn_da:=(qAa (dVC (dCO (dO 0))) (qAa (dVC (dCO dS)) dNil))
def zbn_db:=(qAa (qAz .node) dNil)
def zbn_c:CS:=mkC zbn_da zbn_db (fun x y=>zbn_s y.1 x.2.1) (fun x y r=>.tup [.agg [.vB r.1.has,.vI r.1.at_],.o (.vB r.2)]) fun x y r=>[.view .node y.1]
theorem zbn_val:qAl Tryd.prog 60 zbn_c:=qAn zbn_chk 7 zbn_Gok 1 (fun x=>Nat.le_of_ble_eq_true rfl) (fun y=>rfl) zbn_subs fun x y=>by
 simp only [zbn_s,-eq_self,qAc,qAf,obA,obS,slL,slR,qAd]
 kernel_rfl
def zbn_w:CQ:=qB3 [(0,none,some (.node,46))] (qC3 [false] zbn_c)
theorem zbn_ok:qAg Tryd.prog 60 zbn_w:=qCi zbn_val
def zbk_q:IQ:=(.seq (rg 3 [oP 2 (.alloc 51 [.slice none 0 0,.string ⟨#[]⟩,.bool false,.string ⟨#[]⟩,.bool false,.slice none 0 0,.bool false,.string ⟨#[]⟩,.bool false,.bool false,.int .i64 0,.bool false,.int .i64 0,.bool false,.int .i64 0]),oP 3 (.mv (vI 0))]) (.seq (rg 6 [oM 27 t0,oP 28 (.call 48 [t27]),oM 26 t28,oP 29 (.extract t26 0),oP 30 (.extract t26 1),oP 31 (.extract t26 2),oM 4 t29,oM 5 t30,oM 6 t31]) (.seq (.seq (rg 33 [oM 32 t5,oP 33 (.bi .neq t32 (vI 0))]) (.cond t33 (.seq (rg 3 [oP 34 (.build [.slice none 0 0,.string ⟨#[]⟩,.bool false,.string ⟨#[]⟩,.bool false,.slice none 0 0,.bool false,.string ⟨#[]⟩,.bool false,.bool false,.int .i64 0,.bool false,.int .i64 0,.bool false,.int .i64 0] []),oM 35 t5,oN (.store 15 t2 t34),oM 3 t35]) (.canon [(2,some 0,.node,46),(2,some 5,.str,9)] [2,3] .ret)) .skip)) (.seq (.seq (rg 40 [oM 36 t4,oP 37 (.iaddr 6 t36 (vI 0)),oP 38 (.faddr 0 t37),oP 39 (.load none t38),oP 40 (.bi .neq t39 (vI 7))]) (.cond t40 (.seq (rg 3 [oP 41 (.build [.slice none 0 0,.string ⟨#[]⟩,.bool false,.string ⟨#[]⟩,.bool false,.slice none 0 0,.bool false,.string ⟨#[]⟩,.bool false,.bool false,.int .i64 0,.bool false,.int .i64 0,.bool false,.int .i64 0] []),oN (.store 15 t2 t41),oP 3 (.mv (vI 130))]) (.canon [(2,some 0,.node,46),(2,some 5,.str,9)] [2,3] .ret)) .skip)) (.seq (rg 9 [oM 43 t4,oP 44 (.call 58 [t43,(.v (.string ⟨#[105,115,115]⟩))]),oM 42 t44,oP 45 (.extract t42 0),oP 46 (.extract t42 1),oP 47 (.extract t42 2),oM 7 t45,oM 8 t46,oM 9 t47]) (.seq (rg 12 [oM 49 t4,oP 50 (.call 58 [t49,(.v (.string ⟨#[115,117,98]⟩))]),oM 48 t50,oP 51 (.extract t48 0),oP 52 (.extract t48 1),oP 53 (.extract t48 2),oM 10 t51,oM 11 t52,oM 12 t53]) (.seq (rg 15 [oM 55 t4,oP 56 (.call 58 [t55,(.v (.string ⟨#[106,116,105]⟩))]),oM 54 t56,oP 57 (.extract t54 0),oP 58 (.extract t54 1),oP 59 (.extract t54 2),oM 13 t57,oM 14 t58,oM 15 t59]) (.seq (rg 18 [oM 61 t4,oP 62 (.call 59 [t61,(.v (.string ⟨#[97,117,100]⟩))]),oM 60 t62,oP 63 (.extract t60 0),oP 64 (.extract t60 1),oP 65 (.extract t60 2),oM 16 t63,oM 17 t64,oM 18 t65]) (.seq (rg 20 [oM 67 t4,oP 68 (.call 60 [t67,(.v (.string ⟨#[101,120,112]⟩))]),oM 66 t68,oP 69 (.extract t66 0),oP 70 (.extract t66 1),oP 19 (.alloc 49 [.bool false,.int .i64 0]),oN (.store 2 t19 t69),oM 20 t70]) (.seq (rg 22 [oM 72 t4,oP 73 (.call 60 [t72,(.v (.string ⟨#[110,98,102]⟩))]),oM 71 t73,oP 74 (.extract t71 0),oP 75 (.extract t71 1),oP 21 (.alloc 49 [.bool false,.int .i64 0]),oN (.store 2 t21 t74),oM 22 t75]) (.seq (rg 24 [oM 77 t4,oP 78 (.call 60 [t77,(.v (.string ⟨#[105,97,116]⟩))]),oM 76 t78,oP 79 (.extract t76 0),oP 80 (.extract t76 1),oP 23 (.alloc 49 [.bool false,.int .i64 0]),oN (.store 2 t23 t79),oM 24 t80]) (.seq (.seq (rg 106 [oM 81 t9,oP 82 (.un .not t81),oM 83 t82,oE 84 (.mv t12) 83,oE 85 (.un .not t84) 83,oP 86 (.pick t83 vT t85),oM 87 t86,oE 88 (.mv t15) 87,oE 89 (.un .not t88) 87,oP 90 (.pick t87 vT t89),oM 91 t90,oE 92 (.mv t18) 91,oE 93 (.un .not t92) 91,oP 94 (.pick t91 vT t93),oM 95 t94,oE 96 (.mv t20) 95,oE 97 (.un .not t96) 95,oP 98 (.pick t95 vT t97),oM 99 t98,oE 100 (.mv t22) 99,oE 101 (.un .not t100) 99,oP 102 (.pick t99 vT t101),oM 103 t102,oE 104 (.mv t24) 103,oE 105 (.un .not t104) 103,oP 106 (.pick t103 vT t105)]) (.cond t106 (.seq (rg 3 [oP 107 (.build [.slice none 0 0,.string ⟨#[]⟩,.bool false,.string ⟨#[]⟩,.bool false,.slice none 0 0,.bool false,.string ⟨#[]⟩,.bool false,.bool false,.int .i64 0,.bool false,.int .i64 0,.bool false,.int .i64 0] []),oN (.store 15 t2 t107),oP 3 (.mv (vI 131))]) (.canon [(2,some 0,.node,46),(2,some 5,.str,9)] [2,3] .ret)) .skip)) (.seq (rg 0 [oM 108 t4,oM 109 t7,oM 110 t8,oM 111 t10,oM 112 t11,oM 113 t16,oM 114 t17,oM 115 t13,oM 116 t14,oP 117 (.load (some 2) t19),oP 118 (.load (some 2) t21),oP 119 (.load (some 2) t23),oP 120 (.build [.slice none 0 0,.string ⟨#[]⟩,.bool false,.string ⟨#[]⟩,.bool false,.slice none 0 0,.bool false,.string ⟨#[]⟩,.bool false,.bool false,.int .i64 0,.bool false,.int .i64 0,.bool false,.int .i64 0] [(0,1,t108),(1,1,t109),(2,1,t110),(3,1,t111),(4,1,t112),(5,1,t113),(6,1,t114),(7,1,t115),(8,1,t116),(9,2,t117),(11,2,t118),(13,2,t119)]),oP 25 (.alloc 51 [.slice none 0 0,.string ⟨#[]⟩,.bool false,.string ⟨#[]⟩,.bool false,.slice none 0 0,.bool false,.string ⟨#[]⟩,.bool false,.bool false,.int .i64 0,.bool false,.int .i64 0,.bool false,.int .i64 0]),oN (.store 15 t25 t120)]) (.seq (rg 3 [oP 121 (.load (some 15) t25),oN (.store 15 t2 t121),oP 3 (.mv (vI 0))]) (.canon [(2,some 0,.node,46),(2,some 5,.str,9)] [2,3] .ret)))))))))))))))
theorem zbk_chk:chk Tryd.prog 24 []=some (zbk_q.erase,[.cell 2 (some 15),.tmp 3],122):=by kernel_rfl
def zbk_s (payload:BA):Option (qG3 × Int) :=
 (zbv_s payload).bind fun r1 =>
 bif (!decide (r1.2.1=(0:Int))) then (
  some ((⟨[],(⟨#[]⟩:BA),false,(⟨#[]⟩:BA),false,[],false,(⟨#[]⟩:BA),false,(⟨false,(0:Int)⟩:qG7),(⟨false,(0:Int)⟩:qG7),(⟨false,(0:Int)⟩:qG7)⟩:qG3),r1.2.1))
 else (
  gd (0≤(0:Int)∧(0:Int)<r1.1.length) <|
  gd ((Int.toNat (0:Int))<r1.1.length) <|
  gd ((Int.toNat (0:Int))<r1.1.length) <|
  bif (!decide (((r1.1.getD (Int.toNat (0:Int)) (ET.dft .node)).kind)=(7:Int))) then (
   some ((⟨[],(⟨#[]⟩:BA),false,(⟨#[]⟩:BA),false,[],false,(⟨#[]⟩:BA),false,(⟨false,(0:Int)⟩:qG7),(⟨false,(0:Int)⟩:qG7),(⟨false,(0:Int)⟩:qG7)⟩:qG3),(130:Int)))
  else (
   (zbl_s r1.1 (⟨#[105,115,115]⟩:BA)).bind fun r2 =>
   (zbl_s r1.1 (⟨#[115,117,98]⟩:BA)).bind fun r3 =>
   (zbl_s r1.1 (⟨#[106,116,105]⟩:BA)).bind fun r4 =>
   (zbm_s r1.1 (⟨#[97,117,100]⟩:BA)).bind fun r5 =>
   (zbn_s r1.1 (⟨#[101,120,112]⟩:BA)).bind fun r6 =>
   (zbn_s r1.1 (⟨#[110,98,102]⟩:BA)).bind fun r7 =>
   (zbn_s r1.1 (⟨#[105,97,116]⟩:BA)).bind fun r8 =>
   bif (((((((!r2.2.2) || (!r3.2.2)) || (!r4.2.2)) || (!r5.2.2)) || (!r6.2)) || (!r7.2)) || (!r8.2)) then (
    some ((⟨[],(⟨#[]⟩:BA),false,(⟨#[]⟩:BA),false,[],false,(⟨#[]⟩:BA),false,(⟨false,(0:Int)⟩:qG7),(⟨false,(0:Int)⟩:qG7),(⟨false,(0:Int)⟩:qG7)⟩:qG3),(131:Int)))
   else (
    some ((⟨r1.1,r2.1,r2.2.1,r3.1,r3.2.1,r5.1,r5.2.1,r4.1,r4.2.1,r6.1,r7.1,r8.1⟩:qG3),(0:Int)))))
def zbk_G:Nat→Option CQ:=tblQ [(48,zbv_w),(58,zbl_w),(59,zbm_w),(60,zbn_w)]
theorem zbk_Gok:∀f C,zbk_G f=some C→qAg Tryd.prog f C:=qAi ⟨zbv_ok,zbl_ok,zbm_ok,zbn_ok,tV⟩
def zbk_L:Nat→SubQ:=tblL []
theorem zbk_subs:qAq zbk_L zbk_G 0 26 122 zbk_q:=qAk (show qAt zbk_L zbk_G 0 26 122 [] from tV)
def zbk_da:=(qAa (dVC (dCO dS)) dNil)
def zbk_db:=(dNil:Dec Unit (List SB))
def zbk_c:CS:=mkC zbk_da zbk_db (fun x y=>zbk_s x.1) (fun x y r=>.tup [.agg [.own 0,.vS r.1.iss,.vB r.1.hasIss,.vS r.1.sub,.vB r.1.hasSub,.own 1,.vB r.1.hasAud,.vS r.1.jti,.vB r.1.hasJti,.vB r.1.exp_.has,.vI r.1.exp_.at_,.vB r.1.nbf.has,.vI r.1.nbf.at_,.vB r.1.iat.has,.vI r.1.iat.at_],.o (.vI r.2)]) fun x y r=>[.row .node 46 r.1.value,.row .str 9 r.1.aud]
theorem zbk_val:qAl Tryd.prog 24 zbk_c:=qAn zbk_chk 26 zbk_Gok 0 (fun x=>Nat.le_of_ble_eq_true rfl) (fun y=>rfl) zbk_subs fun x y=>by
 simp only [zbk_s,-eq_self,qAc,qAf,obA,obS,slL,slR,qAd]
 kernel_rfl
def zbk_w:CQ:=qB1 [] zbk_c
theorem zbk_ok:qAg Tryd.prog 24 zbk_w:=qBe zbk_val
def zbj_b0:IQ:=(.loop [0,1,5] (.seq (.seq (rg 14 [oM 11 t5,oM 12 t0,oP 13 (.len t12),oP 14 (.bi .lss t11 t13)]) (.cond t14 .skip (.cn [] (.exit 0)))) (.seq (.block 1 (.seq (.reg 25 (some [0,1,2,3,4,5,6,7,8]) [oM 17 t0,oM 18 t5,oP 19 (.iaddr 1 t17 t18),oP 20 (.load none t19),oM 21 t1,oM 22 t5,oP 23 (.iaddr 1 t21 t22),oP 24 (.load none t23),oP 25 (.bi .neq t20 t24)]) (.cond t25 (.seq (rg 4 [oP 4 (.mv vF)]) (.cn [4] .ret)) .skip))) (rg 5 [oM 15 t5,oP 16 (.bi .add t15 (vI 1)),oM 5 t16]))))
def zbj_q:IQ:=(.seq (rg 4 [oP 4 (.mv vF)]) (.seq (.seq (rg 10 [oM 6 t0,oP 7 (.len t6),oM 8 t1,oP 9 (.len t8),oP 10 (.bi .neq t7 t9)]) (.cond t10 (.seq (rg 4 [oP 4 (.mv vF)]) (.cn [4] .ret)) .skip)) (.seq (.seq (rg 5 [oP 5 (.mv (vI 0))]) (.block 0 (.cn [0,1,5] (.sub 0 zbj_b0)))) (.seq (rg 4 [oP 4 (.mv vT)]) (.cn [4] .ret)))))
theorem zbj_chk:chk Tryd.prog 31 []=some (zbj_q.erase,[.tmp 4],26):=by kernel_rfl
def qFl (i:Int) (a b:List BA):Option (Int ⊕ (Bool ⊕ Unit)) :=
 bif decide (i<(a.length:Int)) then (
  gd (0≤i∧i<a.length) <|
  gd ((Int.toNat i)<a.length) <|
  gd (0≤i∧i<b.length) <|
  gd ((Int.toNat i)<b.length) <|
  bif (!decide ((a.getD (Int.toNat i) (ET.dft .str))=(b.getD (Int.toNat i) (ET.dft .str)))) then (
   some (.inr (.inl false)))
  else (
   gd (qAe (i+(1:Int))) <|
   some (.inl (i+(1:Int)))))
 else (
  some (.inr (.inr ())))
def zbj_p0 (i:Int) (a b:List BA):Option (Bool ⊕ Unit) :=
 qA6 (fun x:Int=>qFl x a b) i
def zbj_s (a b:(List BA)):Option Bool :=
 bif (!decide ((a.length:Int)=(b.length:Int))) then (
  some false)
 else (
  (zbj_p0 (0:Int) a b).bind fun o1=>(Sum.elim (fun (o1_0:Bool) =>
   some o1_0) (fun (o1_1:Unit) =>
   some true)) o1)
def zbj_G:Nat→Option CQ:=tblQ []
theorem zbj_Gok:∀f C,zbj_G f=some C→qAg Tryd.prog f C:=fun f C h=>by cases h
def zbj_d0:=(dQS (qAa (dSO 0 (dO 0)) (qAa (dSO 1 (dO 1)) (qAa (dSO 5 dZ) dNil))) (qAa (qAz .str) (qAa (qAz .str) dNil)))
def zbj_l0:SubQ:=mkL zbj_d0 (fun x=>zbj_p0 x.1.2.2.1 x.2.1 x.2.2.1) fun x r R kn kx kr=>(Sum.elim (fun (r_0:Bool)=>kr ⟨[sL 4 (.vB r_0)],[],[.view .str x.2.1,.view .str x.2.2.1]⟩) (fun (r_1:Unit)=>kx 0 ⟨[],[],[.view .str x.2.1,.view .str x.2.2.1]⟩)) r
def zbj_L:Nat→SubQ:=tblL [(0,zbj_l0)]
theorem zbj_sub0:qBb zbj_L zbj_G 2 6 26 0 zbj_b0:=qAr (show zbj_L 0=zbj_l0 from by kernel_rfl) fun x R kn kx kr=>qAs (step:=fun y=>qFl y x.2.1 x.2.2.1) (enc:=fun (y:Int)=>zbj_d0.e ((x.1.1,x.1.2.1,y,x.1.2.2.2),x.2)) (fun y=>by kernel_rfl) (fun y ki=>by simp only [qFl,-eq_self,qAc,qAf,obA,obS,slL,slR,qAd]; kernel_rfl) x.1.2.2.1
theorem zbj_subs:qAq zbj_L zbj_G 2 6 26 zbj_q:=qAk (show qAt zbj_L zbj_G 2 6 26 [(0,zbj_b0)] from ⟨zbj_sub0,tV⟩)
def zbj_da:=(qAa (dVC (dCO (dO 0))) (qAa (dVC (dCO (dO 1))) dNil))
def zbj_db:=(qAa (qAz .str) (qAa (qAz .str) dNil))
def zbj_c:CS:=mkC zbj_da zbj_db (fun x y=>zbj_s y.1 y.2.1) (fun x y r=>.c (.o (.vB r))) fun x y r=>[.view .str y.1,.view .str y.2.1]
theorem zbj_val:qAl Tryd.prog 31 zbj_c:=qAn zbj_chk 6 zbj_Gok 2 (fun x=>Nat.le_of_ble_eq_true rfl) (fun y=>rfl) zbj_subs fun x y=>by
 simp only [zbj_s,-eq_self,qAc,qAf,obA,obS,slL,slR,qAd]
 kernel_rfl
def zbj_w:CQ:=qB3 [(0,none,some (.str,9)),(1,none,some (.str,9))] (qC3 [false,false] zbj_c)
theorem zbj_ok:qAg Tryd.prog 31 zbj_w:=qCi zbj_val
def zbi_b0:IQ:=(.loop [0,1,5] (.seq (.seq (rg 14 [oM 11 t5,oM 12 t0,oP 13 (.len t12),oP 14 (.bi .lss t11 t13)]) (.cond t14 .skip (.cn [] (.exit 0)))) (.seq (.block 1 (.seq (.reg 25 (some [0,1,2,3,4,5,6,7,8]) [oM 17 t0,oM 18 t5,oP 19 (.iaddr 6 t17 t18),oP 20 (.load (some 6) t19),oM 21 t1,oM 22 t5,oP 23 (.iaddr 6 t21 t22),oP 24 (.load (some 6) t23),oP 25 (.ext (.aggEq true [.int .i64,.str,.str,.bool,.int .i64,.int .i64]) [t20,t24])]) (.cond t25 (.seq (rg 4 [oP 4 (.mv vF)]) (.cn [4] .ret)) .skip))) (rg 5 [oM 15 t5,oP 16 (.bi .add t15 (vI 1)),oM 5 t16]))))
def zbi_q:IQ:=(.seq (rg 4 [oP 4 (.mv vF)]) (.seq (.seq (rg 10 [oM 6 t0,oP 7 (.len t6),oM 8 t1,oP 9 (.len t8),oP 10 (.bi .neq t7 t9)]) (.cond t10 (.seq (rg 4 [oP 4 (.mv vF)]) (.cn [4] .ret)) .skip)) (.seq (.seq (rg 5 [oP 5 (.mv (vI 0))]) (.block 0 (.cn [0,1,5] (.sub 0 zbi_b0)))) (.seq (rg 4 [oP 4 (.mv vT)]) (.cn [4] .ret)))))
theorem zbi_chk:chk Tryd.prog 30 []=some (zbi_q.erase,[.tmp 4],26):=by kernel_rfl
def qE9 (i:Int) (a b:List Eng.Node):Option (Int ⊕ (Bool ⊕ Unit)) :=
 bif decide (i<(a.length:Int)) then (
  gd (0≤i∧i<a.length) <|
  gd ((Int.toNat i)<a.length) <|
  gd (0≤i∧i<b.length) <|
  gd ((Int.toNat i)<b.length) <|
  bif (!(decide (((a.getD (Int.toNat i) (ET.dft .node)).kind)=((b.getD (Int.toNat i) (ET.dft .node)).kind)) && (decide (((a.getD (Int.toNat i) (ET.dft .node)).key)=((b.getD (Int.toNat i) (ET.dft .node)).key)) && (decide (((a.getD (Int.toNat i) (ET.dft .node)).text)=((b.getD (Int.toNat i) (ET.dft .node)).text)) && ((((a.getD (Int.toNat i) (ET.dft .node)).whole) == ((b.getD (Int.toNat i) (ET.dft .node)).whole)) && (decide (((a.getD (Int.toNat i) (ET.dft .node)).int)=((b.getD (Int.toNat i) (ET.dft .node)).int)) && (decide (((a.getD (Int.toNat i) (ET.dft .node)).kids)=((b.getD (Int.toNat i) (ET.dft .node)).kids)) && true))))))) then (
   some (.inr (.inl false)))
  else (
   gd (qAe (i+(1:Int))) <|
   some (.inl (i+(1:Int)))))
 else (
  some (.inr (.inr ())))
def zbi_p0 (i:Int) (a b:List Eng.Node):Option (Bool ⊕ Unit) :=
 qA6 (fun x:Int=>qE9 x a b) i
def zbi_s (a b:(List Eng.Node)):Option Bool :=
 bif (!decide ((a.length:Int)=(b.length:Int))) then (
  some false)
 else (
  (zbi_p0 (0:Int) a b).bind fun o1=>(Sum.elim (fun (o1_0:Bool) =>
   some o1_0) (fun (o1_1:Unit) =>
   some true)) o1)
def zbi_G:Nat→Option CQ:=tblQ []
theorem zbi_Gok:∀f C,zbi_G f=some C→qAg Tryd.prog f C:=fun f C h=>by cases h
def zbi_d0:=(dQS (qAa (dSO 0 (dO 0)) (qAa (dSO 1 (dO 1)) (qAa (dSO 5 dZ) dNil))) (qAa (qAz .node) (qAa (qAz .node) dNil)))
def zbi_l0:SubQ:=mkL zbi_d0 (fun x=>zbi_p0 x.1.2.2.1 x.2.1 x.2.2.1) fun x r R kn kx kr=>(Sum.elim (fun (r_0:Bool)=>kr ⟨[sL 4 (.vB r_0)],[],[.view .node x.2.1,.view .node x.2.2.1]⟩) (fun (r_1:Unit)=>kx 0 ⟨[],[],[.view .node x.2.1,.view .node x.2.2.1]⟩)) r
def zbi_L:Nat→SubQ:=tblL [(0,zbi_l0)]
theorem zbi_sub0:qBb zbi_L zbi_G 2 6 26 0 zbi_b0:=qAr (show zbi_L 0=zbi_l0 from by kernel_rfl) fun x R kn kx kr=>qAs (step:=fun y=>qE9 y x.2.1 x.2.2.1) (enc:=fun (y:Int)=>zbi_d0.e ((x.1.1,x.1.2.1,y,x.1.2.2.2),x.2)) (fun y=>by kernel_rfl) (fun y ki=>by simp only [qE9,-eq_self,qAc,qAf,obA,obS,slL,slR,qAd]; kernel_rfl) x.1.2.2.1
theorem zbi_subs:qAq zbi_L zbi_G 2 6 26 zbi_q:=qAk (show qAt zbi_L zbi_G 2 6 26 [(0,zbi_b0)] from ⟨zbi_sub0,tV⟩)
def zbi_da:=(qAa (dVC (dCO (dO 0))) (qAa (dVC (dCO (dO 1))) dNil))
def zbi_db:=(qAa (qAz .node) (qAa (qAz .node) dNil))
def zbi_c:CS:=mkC zbi_da zbi_db (fun x y=>zbi_s y.1 y.2.1) (fun x y r=>.c (.o (.vB r))) fun x y r=>[.view .node y.1,.view .node y.2.1]
theorem zbi_val:qAl Tryd.prog 30 zbi_c:=qAn zbi_chk 6 zbi_Gok 2 (fun x=>Nat.le_of_ble_eq_true rfl) (fun y=>rfl) zbi_subs fun x y=>by
 simp only [zbi_s,-eq_self,qAc,qAf,obA,obS,slL,slR,qAd]
 kernel_rfl
def zbi_w:CQ:=qB3 [(0,none,some (.node,46)),(1,none,some (.node,46))] (qC3 [false,false] zbi_c)
theorem zbi_ok:qAg Tryd.prog 30 zbi_w:=qCi zbi_val
def zbh_q:IQ:=(.seq (rg 4 [oP 2 (.box 51 15 t0),oP 3 (.box 51 15 t1),oP 4 (.mv vF)]) (.seq (rg 4 [oP 5 (.faddr 1 t2),oP 6 (.load none t5),oP 7 (.faddr 1 t3),oP 8 (.load none t7),oP 9 (.bi .eql t6 t8),oM 10 t9,oF 11 (.faddr 2 t2) 10,oF 12 (.load none t11) 10,oF 13 (.faddr 2 t3) 10,oF 14 (.load none t13) 10,oF 15 (.beq false t12 t14) 10,oP 16 (.pick t10 t15 vF),oM 17 t16,oF 18 (.faddr 3 t2) 17,oF 19 (.load none t18) 17,oF 20 (.faddr 3 t3) 17,oF 21 (.load none t20) 17,oF 22 (.bi .eql t19 t21) 17,oP 23 (.pick t17 t22 vF),oM 24 t23,oF 25 (.faddr 4 t2) 24,oF 26 (.load none t25) 24,oF 27 (.faddr 4 t3) 24,oF 28 (.load none t27) 24,oF 29 (.beq false t26 t28) 24,oP 30 (.pick t24 t29 vF),oM 31 t30,oF 32 (.faddr 5 t2) 31,oF 33 (.load none t32) 31,oF 34 (.faddr 5 t3) 31,oF 35 (.load none t34) 31,oF 36 (.call 31 [t33,t35]) 31,oP 37 (.pick t31 t36 vF),oM 38 t37,oF 39 (.faddr 6 t2) 38,oF 40 (.load none t39) 38,oF 41 (.faddr 6 t3) 38,oF 42 (.load none t41) 38,oF 43 (.beq false t40 t42) 38,oP 44 (.pick t38 t43 vF),oM 45 t44,oF 46 (.faddr 7 t2) 45,oF 47 (.load none t46) 45,oF 48 (.faddr 7 t3) 45,oF 49 (.load none t48) 45,oF 50 (.bi .eql t47 t49) 45,oP 51 (.pick t45 t50 vF),oM 52 t51,oF 53 (.faddr 8 t2) 52,oF 54 (.load none t53) 52,oF 55 (.faddr 8 t3) 52,oF 56 (.load none t55) 52,oF 57 (.beq false t54 t56) 52,oP 58 (.pick t52 t57 vF),oM 59 t58,oF 60 (.faddr 9 t2) 59,oF 61 (.load (some 2) t60) 59,oF 62 (.faddr 9 t3) 59,oF 63 (.load (some 2) t62) 59,oF 64 (.ext (.aggEq false [.bool,.int .i64]) [t61,t63]) 59,oP 65 (.pick t59 t64 vF),oM 66 t65,oF 67 (.faddr 11 t2) 66,oF 68 (.load (some 2) t67) 66,oF 69 (.faddr 11 t3) 66,oF 70 (.load (some 2) t69) 66,oF 71 (.ext (.aggEq false [.bool,.int .i64]) [t68,t70]) 66,oP 72 (.pick t66 t71 vF),oM 73 t72,oF 74 (.faddr 13 t2) 73,oF 75 (.load (some 2) t74) 73,oF 76 (.faddr 13 t3) 73,oF 77 (.load (some 2) t76) 73,oF 78 (.ext (.aggEq false [.bool,.int .i64]) [t75,t77]) 73,oP 79 (.pick t73 t78 vF),oM 80 t79,oF 81 (.faddr 0 t2) 80,oF 82 (.load none t81) 80,oF 83 (.faddr 0 t3) 80,oF 84 (.load none t83) 80,oF 85 (.call 30 [t82,t84]) 80,oP 86 (.pick t80 t85 vF),oM 4 t86]) (.cn [4] .ret)))
theorem zbh_chk:chk Tryd.prog 25 []=some (zbh_q.erase,[.tmp 4],87):=by kernel_rfl
def zbh_s (a b:qG3):Option Bool :=
 bif ((((decide (a.iss=b.iss)) && (a.hasIss == b.hasIss)) && (decide (a.sub=b.sub))) && (a.hasSub == b.hasSub)) then (
  (zbj_s a.aud b.aud).bind fun r1 =>
  bif ((((((r1 && (a.hasAud == b.hasAud)) && (decide (a.jti=b.jti))) && (a.hasJti == b.hasJti)) && ((a.exp_.has == b.exp_.has) && (decide (a.exp_.at_=b.exp_.at_) && true))) && ((a.nbf.has == b.nbf.has) && (decide (a.nbf.at_=b.nbf.at_) && true))) && ((a.iat.has == b.iat.has) && (decide (a.iat.at_=b.iat.at_) && true))) then (
   (zbi_s a.value b.value).bind fun r2 =>
   some r2)
  else (
   some false))
 else (
  some false)
def zbh_G:Nat→Option CQ:=tblQ [(31,zbj_w),(30,zbi_w)]
theorem zbh_Gok:∀f C,zbh_G f=some C→qAg Tryd.prog f C:=qAi ⟨zbj_ok,zbi_ok,tV⟩
def zbh_L:Nat→SubQ:=tblL []
theorem zbh_subs:qAq zbh_L zbh_G 4 5 87 zbh_q:=qAk (show qAt zbh_L zbh_G 4 5 87 [] from tV)
def zbh_da:=(qAa (dVC (dCA (qAa (dO 0) (qAa dS (qAa dB (qAa dS (qAa dB (qAa (dO 1) (qAa dB (qAa dS (qAa dB (qAa dB (qAa dZ (qAa dB (qAa dZ (qAa dB (qAa dZ dNil))))))))))))))))) (qAa (dVC (dCA (qAa (dO 2) (qAa dS (qAa dB (qAa dS (qAa dB (qAa (dO 3) (qAa dB (qAa dS (qAa dB (qAa dB (qAa dZ (qAa dB (qAa dZ (qAa dB (qAa dZ dNil))))))))))))))))) dNil))
def zbh_db:=(qAa (qAz .node) (qAa (qAz .str) (qAa (qAz .node) (qAa (qAz .str) dNil))))
def zbh_c:CS:=mkC zbh_da zbh_db (fun x y=>zbh_s (⟨y.1,x.1.2.1,x.1.2.2.1,x.1.2.2.2.1,x.1.2.2.2.2.1,y.2.1,x.1.2.2.2.2.2.2.1,x.1.2.2.2.2.2.2.2.1,x.1.2.2.2.2.2.2.2.2.1,(⟨x.1.2.2.2.2.2.2.2.2.2.1,x.1.2.2.2.2.2.2.2.2.2.2.1⟩:qG7),(⟨x.1.2.2.2.2.2.2.2.2.2.2.2.1,x.1.2.2.2.2.2.2.2.2.2.2.2.2.1⟩:qG7),(⟨x.1.2.2.2.2.2.2.2.2.2.2.2.2.2.1,x.1.2.2.2.2.2.2.2.2.2.2.2.2.2.2.1⟩:qG7)⟩:qG3) (⟨y.2.2.1,x.2.1.2.1,x.2.1.2.2.1,x.2.1.2.2.2.1,x.2.1.2.2.2.2.1,y.2.2.2.1,x.2.1.2.2.2.2.2.2.1,x.2.1.2.2.2.2.2.2.2.1,x.2.1.2.2.2.2.2.2.2.2.1,(⟨x.2.1.2.2.2.2.2.2.2.2.2.1,x.2.1.2.2.2.2.2.2.2.2.2.2.1⟩:qG7),(⟨x.2.1.2.2.2.2.2.2.2.2.2.2.2.1,x.2.1.2.2.2.2.2.2.2.2.2.2.2.2.1⟩:qG7),(⟨x.2.1.2.2.2.2.2.2.2.2.2.2.2.2.2.1,x.2.1.2.2.2.2.2.2.2.2.2.2.2.2.2.2.1⟩:qG7)⟩:qG3)) (fun x y r=>.c (.o (.vB r))) fun x y r=>[.view .node y.1,.view .str y.2.1,.view .node y.2.2.1,.view .str y.2.2.2.1]
theorem zbh_val:qAl Tryd.prog 25 zbh_c:=qAn zbh_chk 5 zbh_Gok 4 (fun x=>Nat.le_of_ble_eq_true rfl) (fun y=>rfl) zbh_subs fun x y=>by
 simp only [zbh_s,-eq_self,qAc,qAf,obA,obS,slL,slR,qAd]
 kernel_rfl
def zbh_w:CQ:=qB3 [(0,some 0,some (.node,46)),(0,some 5,some (.str,9)),(1,some 0,some (.node,46)),(1,some 5,some (.str,9))] (qC3 [false,false,false,false] zbh_c)
theorem zbh_ok:qAg Tryd.prog 25 zbh_w:=qCi zbh_val
def zbg_q:IQ:=(.seq (rg 2 [oP 2 (.mv vF)]) (.seq (rg 4 [oM 8 t0,oP 9 (.call 23 [t8]),oM 7 t9,oP 10 (.extract t7 0),oP 11 (.extract t7 1),oP 3 (.alloc 51 [.slice none 0 0,.string ⟨#[]⟩,.bool false,.string ⟨#[]⟩,.bool false,.slice none 0 0,.bool false,.string ⟨#[]⟩,.bool false,.bool false,.int .i64 0,.bool false,.int .i64 0,.bool false,.int .i64 0]),oN (.store 15 t3 t10),oM 4 t11]) (.seq (rg 6 [oM 13 t0,oP 14 (.call 24 [t13]),oM 12 t14,oP 15 (.extract t12 0),oP 16 (.extract t12 1),oP 5 (.alloc 51 [.slice none 0 0,.string ⟨#[]⟩,.bool false,.string ⟨#[]⟩,.bool false,.slice none 0 0,.bool false,.string ⟨#[]⟩,.bool false,.bool false,.int .i64 0,.bool false,.int .i64 0,.bool false,.int .i64 0]),oN (.store 15 t5 t15),oM 6 t16]) (.seq (rg 2 [oM 17 t4,oM 18 t6,oP 19 (.bi .eql t17 t18),oM 20 t19,oF 21 (.load (some 15) t3) 20,oF 22 (.load (some 15) t5) 20,oF 23 (.call 25 [t21,t22]) 20,oP 24 (.pick t20 t23 vF),oM 2 t24]) (.cn [2] .ret)))))
theorem zbg_chk:chk Tryd.prog 8 []=some (zbg_q.erase,[.tmp 2],25):=by kernel_rfl
def zbg_s (payload:BA):Option Bool :=
 (zaa_s payload).bind fun r1 =>
 (zbk_s payload).bind fun r2 =>
 bif decide (r1.2=r2.2) then (
  (zbh_s r1.1 r2.1).bind fun r3 =>
  some r3)
 else (
  some false)
def zbg_G:Nat→Option CQ:=tblQ [(23,zaa_w),(24,zbk_w),(25,zbh_w)]
theorem zbg_Gok:∀f C,zbg_G f=some C→qAg Tryd.prog f C:=qAi ⟨zaa_ok,zbk_ok,zbh_ok,tV⟩
def zbg_L:Nat→SubQ:=tblL []
theorem zbg_subs:qAq zbg_L zbg_G 0 7 25 zbg_q:=qAk (show qAt zbg_L zbg_G 0 7 25 [] from tV)
def zbg_da:=(qAa (dVC (dCO dS)) dNil)
def zbg_db:=(dNil:Dec Unit (List SB))
def zbg_c:CS:=mkC zbg_da zbg_db (fun x y=>zbg_s x.1) (fun x y r=>.c (.o (.vB r))) fun x y r=>[]
theorem zbg_val:qAl Tryd.prog 8 zbg_c:=qAn zbg_chk 7 zbg_Gok 0 (fun x=>Nat.le_of_ble_eq_true rfl) (fun y=>rfl) zbg_subs fun x y=>by
 simp only [zbg_s,-eq_self,qAc,qAf,obA,obS,slL,slR,qAd]
 kernel_rfl
end
end Go.Proofs.YticplgndjpljiaaDoor
