/-
  Texts of a claim.
-/
import Derived.Test.YtlmfmmgfiffjiaaGreatDoorEngO
import Derived.Test.YtlmfmmgfiffjiaaGreatDoorProg
import Derived.Test.YtlmfmmgfiffjiaaGreatDoorPDecRef
import Derived.Test.YtlmfmmgfiffjiaaGreatDoorEngPan
import Derived.Test.YtlmfmmgfiffjiaaGreatDoorJP
import Derived.Test.YtlmfmmgfiffjiaaGreatDoorPSha
import Derived.Test.YtlmfmmgfiffjiaaGreatDoorDecRel
namespace Go.Proofs.YtlmfmmgfiffjiaaGreatDoor
open Go.Eng
set_option linter.unusedVariables false
set_option linter.unusedSimpArgs false
set_option maxRecDepth 100000
noncomputable section
structure qGk where
 has:Bool
 at_:Int
structure qGj where
 value:(List Eng.Node)
 iss:BA
 hasIss:Bool
 sub:BA
 hasSub:Bool
 aud:(List BA)
 hasAud:Bool
 jti:BA
 hasJti:Bool
 exp_:qGk
 nbf:qGk
 iat:qGk
def zad_b0:IQ:=(.loop [0,1,28,29,30] (.join [(1000000,some 5,.u8,0)] [0,1,28,29,30] (.seq (rg 31 [oP 31 (.bi .lss t30 t29)]) (.seq (.cond t31 .skip (.cn [0] (.exit 4))) (.seq (.block 5 (.seq (rg 8 [oP 32 (.iaddr 1 t28 t30),oP 33 (.load none t32),oM 8 t33]) (.seq (.seq (rg 39 [oM 34 t1,oM 35 t8,oP 36 (.iaddr 6 t34 t35),oP 37 (.faddr 0 t36),oP 38 (.load none t37),oP 39 (.bi .neq t38 (vI 5))]) (.cond t39 (.seq (rg 6 [oP 6 (.mv vF)]) (.canon [(1000000,some 5,.u8,0),(3000003,none,.u8,0)] [6] .ret)) .skip)) (.reg 0 (some [0,1,2,3,4,5,6,7,8,9,10,11,12,13,14]) ([oM 40 t0]++rF 41 t0 5++[oM 45 t1,oM 46 t8,oP 47 (.iaddr 6 t45 t46),oP 48 (.faddr 2 t47),oP 49 (.load none t48),oP 50 (.bslice 9 1 1 [.string ⟨#[]⟩] [(0,t49)]),oP 51 (.append 9 1 16 [.string ⟨#[]⟩] t44 t50)]++rS 52 t40 5 t51))))) (rg 30 [oP 54 (.bi .add t30 (vI 1)),oM 30 t54]))))))
def zad_b1:IQ:=(.seq (rg 0 ([oM 55 t0,oM 56 t1,oM 57 t2,oP 58 (.iaddr 6 t56 t57),oP 59 (.faddr 2 t58),oP 60 (.load none t59),oP 61 (.bslice 9 1 1 [.string ⟨#[]⟩] [(0,t60)])]++rS 62 t55 5 t61)) (.seq (rg 6 [oP 6 (.mv vT)]) (.canon [(1000000,some 5,.u8,0),(3000003,none,.u8,0)] [6] .ret)))
def zad_q:IQ:=(.seq (rg 6 [oP 6 (.mv vF)]) (.seq (rg 0 ([oM 9 t0]++rS 10 t9 6 vT)) (.seq (.seq (rg 16 [oM 12 t1,oM 13 t2,oP 14 (.iaddr 6 t12 t13),oP 15 (.faddr 0 t14),oP 16 (.load none t15)]) (.block 0 (.seq (.block 3 (.block 2 (.seq (.block 1 (.seq (.seq (.seq (rg 17 [oP 18 (.bi .eql t16 (vI 6)),oM 17 t18]) (.cond t17 (.exit 1) .skip)) (.seq (.seq (.seq (rg 19 [oP 20 (.bi .eql t16 (vI 1)),oM 19 t20]) (.cond t19 .skip (rg 19 [oP 21 (.bi .eql t16 (vI 3)),oM 19 t21]))) (.cond t19 (.exit 2) .skip)) (.seq (.seq (rg 22 [oP 23 (.bi .eql t16 (vI 2)),oM 22 t23]) (.cond t22 .skip (.seq (rg 22 [oP 24 (.bi .eql t16 (vI 4)),oM 22 t24]) (.cond t22 .skip (rg 22 [oP 25 (.bi .eql t16 (vI 7)),oM 22 t25]))))) (.cond t22 (.exit 3) .skip)))) (.exit 0))) (.seq (.seq (.seq (rg 30 [oM 26 t1,oM 27 t2,oP 28 (.call 27 [t26,t27]),oP 29 (.len t28),oP 30 (.mv (vI 0))]) (.block 4 (.canon [(1000000,some 5,.u8,0)] [0,1,28,29,30] (.sub 0 zad_b0)))) (.seq (rg 6 [oP 6 (.mv vT)]) (.canon [(1000000,some 5,.u8,0),(3000003,none,.u8,0)] [6] .ret))) (.exit 0))))) (.seq (.seq (rg 6 [oP 6 (.mv vF)]) (.canon [(1000000,some 5,.u8,0),(3000003,none,.u8,0)] [6] .ret)) (.exit 0))))) (.cn [0,1,2] (.sub 1 zad_b1)))))
def zad_p0_step (x29_ x30_:Int) (v:List Eng.Node) (x28_:List Int) (qH0:List BA):Option ((Int × (List BA)) ⊕ ((Bool × (List BA)) ⊕ ((List BA)))) :=
 bif decide (x30_<x29_) then (
  gd (0≤x30_∧x30_<x28_.length) <|
  gd ((Int.toNat x30_)<x28_.length) <|
  gd (0≤(x28_.getD (Int.toNat x30_) (ET.dft .i64))∧(x28_.getD (Int.toNat x30_) (ET.dft .i64))<v.length) <|
  gd ((Int.toNat (x28_.getD (Int.toNat x30_) (ET.dft .i64)))<v.length) <|
  gd ((Int.toNat (x28_.getD (Int.toNat x30_) (ET.dft .i64)))<v.length) <|
  bif (!decide (((v.getD (Int.toNat (x28_.getD (Int.toNat x30_) (ET.dft .i64))) (ET.dft .node)).kind)=(5:Int))) then (
   some (.inr (.inl (false,qH0))))
  else (
   gd (0≤(x28_.getD (Int.toNat x30_) (ET.dft .i64))∧(x28_.getD (Int.toNat x30_) (ET.dft .i64))<v.length) <|
   gd ((Int.toNat (x28_.getD (Int.toNat x30_) (ET.dft .i64)))<v.length) <|
   gd ((Int.toNat (x28_.getD (Int.toNat x30_) (ET.dft .i64)))<v.length) <|
   gd (qH0.length+([(v.getD (Int.toNat (x28_.getD (Int.toNat x30_) (ET.dft .i64))) (ET.dft .node)).text]:List BA).length≤9223372036854775807∧(qH0.length+([(v.getD (Int.toNat (x28_.getD (Int.toNat x30_) (ET.dft .i64))) (ET.dft .node)).text]:List BA).length)*16≤140737488355328) <|
   gd (qAc (x30_+(1:Int))) <|
   some (.inl ((x30_+(1:Int)),(qH0++[(v.getD (Int.toNat (x28_.getD (Int.toNat x30_) (ET.dft .i64))) (ET.dft .node)).text])))))
 else (
  some (.inr (.inr qH0)))
def zad_p0 (x29_ x30_:Int) (v:List Eng.Node) (x28_:List Int) (qH0:List BA):Option ((Bool × (List BA)) ⊕ ((List BA))) :=
 qAt (fun x:(Int × (List BA))=>zad_p0_step x29_ x.1 v x28_ x.2) (x30_,qH0)
def zad_p1 (at_:Int) (v:List Eng.Node):Option (Bool × (List BA)) :=
 gd (0≤at_∧at_<v.length) <|
 gd ((Int.toNat at_)<v.length) <|
 gd ((Int.toNat at_)<v.length) <|
 some (true,[(v.getD (Int.toNat at_) (ET.dft .node)).text])
def zad_s (c:qGj) (v:(List Eng.Node)) (at_:Int):Option (qGj × Bool) :=
 gd (0≤at_∧at_<v.length) <|
 gd ((Int.toNat at_)<v.length) <|
 gd ((Int.toNat at_)<v.length) <|
 bif decide (((v.getD (Int.toNat at_) (ET.dft .node)).kind)=(6:Int)) then (
  (zaz_s v at_).bind fun r9 =>
  (zad_p0 (r9.length:Int) (0:Int) v r9 c.aud).bind fun o10=>(Sum.elim (fun (o10_0:Bool × (List BA)) =>
   some ({c with aud:=o10_0.2,hasAud:=true:qGj},o10_0.1)) (fun (o10_1:(List BA)) =>
   some ({c with aud:=o10_1,hasAud:=true:qGj},true))) o10)
 else (
  bif decide (((v.getD (Int.toNat at_) (ET.dft .node)).kind)=(1:Int)) then (
   bif decide (((v.getD (Int.toNat at_) (ET.dft .node)).kind)=(1:Int)) then (
    some ({c with hasAud:=true:qGj},false))
   else (
    bif decide (((v.getD (Int.toNat at_) (ET.dft .node)).kind)=(2:Int)) then (
     bif decide (((v.getD (Int.toNat at_) (ET.dft .node)).kind)=(2:Int)) then (
      some ({c with hasAud:=true:qGj},false))
     else (
      (zad_p1 at_ v).bind fun o11 =>
      some ({c with aud:=o11.2,hasAud:=true:qGj},o11.1)))
    else (
     bif decide (((v.getD (Int.toNat at_) (ET.dft .node)).kind)=(4:Int)) then (
      bif decide (((v.getD (Int.toNat at_) (ET.dft .node)).kind)=(4:Int)) then (
       some ({c with hasAud:=true:qGj},false))
      else (
       (zad_p1 at_ v).bind fun o12 =>
       some ({c with aud:=o12.2,hasAud:=true:qGj},o12.1)))
     else (
      bif decide (((v.getD (Int.toNat at_) (ET.dft .node)).kind)=(7:Int)) then (
       some ({c with hasAud:=true:qGj},false))
      else (
       (zad_p1 at_ v).bind fun o13 =>
       some ({c with aud:=o13.2,hasAud:=true:qGj},o13.1))))))
  else (
   bif decide (((v.getD (Int.toNat at_) (ET.dft .node)).kind)=(3:Int)) then (
    some ({c with hasAud:=true:qGj},false))
   else (
    bif decide (((v.getD (Int.toNat at_) (ET.dft .node)).kind)=(2:Int)) then (
     bif decide (((v.getD (Int.toNat at_) (ET.dft .node)).kind)=(2:Int)) then (
      some ({c with hasAud:=true:qGj},false))
     else (
      (zad_p1 at_ v).bind fun o14 =>
      some ({c with aud:=o14.2,hasAud:=true:qGj},o14.1)))
    else (
     bif decide (((v.getD (Int.toNat at_) (ET.dft .node)).kind)=(4:Int)) then (
      bif decide (((v.getD (Int.toNat at_) (ET.dft .node)).kind)=(4:Int)) then (
       some ({c with hasAud:=true:qGj},false))
      else (
       (zad_p1 at_ v).bind fun o15 =>
       some ({c with aud:=o15.2,hasAud:=true:qGj},o15.1)))
     else (
      bif decide (((v.getD (Int.toNat at_) (ET.dft .node)).kind)=(7:Int)) then (
       some ({c with hasAud:=true:qGj},false))
      else (
       (zad_p1 at_ v).bind fun o16 =>
       some ({c with aud:=o16.2,hasAud:=true:qGj},o16.1)))))))
def zad_G:Nat→Option CQ:=tblQ [(27,zaz_w)]
def zDJW1:=(qAa dB (qAa dS (qAa dB (qAa dB (qAa dZ (qAa dB (qAa dZ (qAa dB (qAa dZ dNil)))))))))
def zad_d0:=(dQS (qAa (dSO 0 (dH 0 0)) (qAa (dSO 1 (dO 1)) (qAa (dSO 28 (dO 4)) (qAa (dSO 29 dZ) (qAa (dSO 30 dZ) dNil))))) (qAa (qBi 27 (qAa (dO 2) (qAa dS (qAa dB (qAa dS (qAa dB (qAa (dO 5) zDJW1))))))) (qAa (qBa .node) (qAa (qBa .node) (qAa dDead (qAa (dRow .i64 3) (qAa (dRow .str 9) dNil)))))))
def zad_l0:SubQ:=mkL zad_d0 (fun x=>zad_p0 x.1.2.2.2.1 x.1.2.2.2.2.1 x.2.2.1 x.2.2.2.2.2.1 x.2.2.2.2.2.2.1) fun x r R kn kx kr=>(Sum.elim (fun (r_0:Bool × (List BA))=>kr ⟨[sL 6 (.vB r_0.1)],[],[.cells 27 [.own 2,.vS x.2.1.2.1,.vB x.2.1.2.2.1,.vS x.2.1.2.2.2.1,.vB x.2.1.2.2.2.2.1,.own 4,.vB x.2.1.2.2.2.2.2.2.1,.vS x.2.1.2.2.2.2.2.2.2.1,.vB x.2.1.2.2.2.2.2.2.2.2.1,.vB x.2.1.2.2.2.2.2.2.2.2.2.1,.vI x.2.1.2.2.2.2.2.2.2.2.2.2.1,.vB x.2.1.2.2.2.2.2.2.2.2.2.2.2.1,.vI x.2.1.2.2.2.2.2.2.2.2.2.2.2.2.1,.vB x.2.1.2.2.2.2.2.2.2.2.2.2.2.2.2.1,.vI x.2.1.2.2.2.2.2.2.2.2.2.2.2.2.2.2.1],.view .node x.2.2.1,.view .node x.2.2.2.1,.dead,.row .str 9 r_0.2]⟩) (fun (r_1:(List BA))=>kx 4 ⟨[sL 0 (.hd 0 0)],[],[.cells 27 [.own 2,.vS x.2.1.2.1,.vB x.2.1.2.2.1,.vS x.2.1.2.2.2.1,.vB x.2.1.2.2.2.2.1,.own 4,.vB x.2.1.2.2.2.2.2.2.1,.vS x.2.1.2.2.2.2.2.2.2.1,.vB x.2.1.2.2.2.2.2.2.2.2.1,.vB x.2.1.2.2.2.2.2.2.2.2.2.1,.vI x.2.1.2.2.2.2.2.2.2.2.2.2.1,.vB x.2.1.2.2.2.2.2.2.2.2.2.2.2.1,.vI x.2.1.2.2.2.2.2.2.2.2.2.2.2.2.1,.vB x.2.1.2.2.2.2.2.2.2.2.2.2.2.2.2.1,.vI x.2.1.2.2.2.2.2.2.2.2.2.2.2.2.2.2.1],.view .node x.2.2.1,.view .node x.2.2.2.1,.dead,.row .str 9 r_1]⟩)) r
def zDJW2:=(qBi 27 (qAa (dO 2) (qAa dS (qAa dB (qAa dS (qAa dB (qAa (dO 3) zDJW1)))))))
def zDJW3:=(qAa (qBa .node) (qAa (qBa .node) (qAa (dRow .str 9) dNil)))
def zad_d1:=(dQS (qAa (dSO 0 (dH 0 0)) (qAa (dSO 1 (dO 1)) (qAa (dSO 2 dZ) dNil))) (qAa zDJW2 zDJW3))
def zad_l1:SubQ:=mkL zad_d1 (fun x=>zad_p1 x.1.2.2.1 x.2.2.1) fun x r R kn kx kr=>kr ⟨[sL 6 (.vB r.1)],[],[.cells 27 [.own 2,.vS x.2.1.2.1,.vB x.2.1.2.2.1,.vS x.2.1.2.2.2.1,.vB x.2.1.2.2.2.2.1,.own 4,.vB x.2.1.2.2.2.2.2.2.1,.vS x.2.1.2.2.2.2.2.2.2.1,.vB x.2.1.2.2.2.2.2.2.2.2.1,.vB x.2.1.2.2.2.2.2.2.2.2.2.1,.vI x.2.1.2.2.2.2.2.2.2.2.2.2.1,.vB x.2.1.2.2.2.2.2.2.2.2.2.2.2.1,.vI x.2.1.2.2.2.2.2.2.2.2.2.2.2.2.1,.vB x.2.1.2.2.2.2.2.2.2.2.2.2.2.2.2.1,.vI x.2.1.2.2.2.2.2.2.2.2.2.2.2.2.2.2.1],.view .node x.2.2.1,.view .node x.2.2.2.1,.dead,.row .str 9 r.2]⟩
def zad_L:Nat→SubQ:=tblL [(0,zad_l0),(1,zad_l1)]
theorem zad_sub0:qA0 zad_L zad_G 4 31 64 0 zad_b0:=qAh (show zad_L 0=zad_l0 from by kernel_rfl) fun x R kn kx kr=>qAg (step:=fun y=>zad_p0_step x.1.2.2.2.1 y.1 x.2.2.1 x.2.2.2.2.2.1 y.2) (enc:=fun (y:Int × (List BA))=>zad_d0.e ((x.1.1,x.1.2.1,x.1.2.2.1,x.1.2.2.2.1,y.1,x.1.2.2.2.2.2),(x.2.1,x.2.2.1,x.2.2.2.1,x.2.2.2.2.1,x.2.2.2.2.2.1,y.2,x.2.2.2.2.2.2.2))) (fun y=>by kernel_rfl) (fun y ki=>by simp only [zad_p0_step,-eq_self,sZ]; kernel_rfl) (x.1.2.2.2.2.1,x.2.2.2.2.2.2.1)
theorem zad_sub1:qA0 zad_L zad_G 4 31 64 1 zad_b1:=qAh (show zad_L 1=zad_l1 from by kernel_rfl) fun x R kn kx kr=>by
 simp only [zad_p1,-eq_self,sZ];kernel_rfl
def zYJW0 (y:dTy (qAa zDJW2 zDJW3)):qGj:=(⟨y.2.2.1,y.1.2.1,y.1.2.2.1,y.1.2.2.2.1,y.1.2.2.2.2.1,y.2.2.2.1,y.1.2.2.2.2.2.2.1,y.1.2.2.2.2.2.2.2.1,y.1.2.2.2.2.2.2.2.2.1,(⟨y.1.2.2.2.2.2.2.2.2.2.1,y.1.2.2.2.2.2.2.2.2.2.2.1⟩:qGk),(⟨y.1.2.2.2.2.2.2.2.2.2.2.2.1,y.1.2.2.2.2.2.2.2.2.2.2.2.2.1⟩:qGk),(⟨y.1.2.2.2.2.2.2.2.2.2.2.2.2.2.1,y.1.2.2.2.2.2.2.2.2.2.2.2.2.2.2.1⟩:qGk)⟩:qGj)
def zad_c:CS:=mkC (qAa (dVC (dCO (dH 0 0))) (qAa (dVC (dCO (dO 1))) (qAa (dVC (dCO dZ)) dNil))) (qAa zDJW2 zDJW3) (fun x y=>zad_s (zYJW0 y) y.2.1 x.2.2.1) (fun x y r=>.c (.o (.vB r.2))) fun x y r=>[.cells 27 [.own 2,.vS r.1.iss,.vB r.1.hasIss,.vS r.1.sub,.vB r.1.hasSub,.own 4,.vB r.1.hasAud,.vS r.1.jti,.vB r.1.hasJti,.vB r.1.exp_.has,.vI r.1.exp_.at_,.vB r.1.nbf.has,.vI r.1.nbf.at_,.vB r.1.iat.has,.vI r.1.iat.at_],.view .node y.2.1,.view .node y.2.2.1,.dead,.row .str 9 r.1.aud]
theorem zad_val:qAf Tryz.prog 44 zad_c:=vl1 zad_q [.tmp 6] 64 31 4 (show qA3 zad_L zad_G 4 31 64 [(0,zad_b0),(1,zad_b1)] from ⟨zad_sub0,zad_sub1,tV⟩) (qAq ⟨zaz_ok,tV⟩) fun x y=>by
 simp only [zad_s,-eq_self,sZ];kernel_rfl
def zad_w:CQ:=qBs [(0,some 0,some (.node,47)),(0,some 5,some (.str,9)),(1,none,some (.node,47))] (qB4 [true,false,false,true] zad_c)
theorem zad_ok:qAe Tryz.prog 44 zad_w:=qAv zad_val
def zae_q:IQ:=(.seq (rg 6 [oP 6 (.mv vF)]) (.seq (rg 0 [oM 11 t1,oM 12 t2,oP 13 (.iaddr 6 t11 t12),oP 14 (.load (some 6) t13),oP 7 (.alloc 47 [.int .i64 0,.string ⟨#[]⟩,.string ⟨#[]⟩,.bool false,.int .i64 0,.int .i64 0]),oN (.store 6 t7 t14)]) (.seq (rg 8 [oP 8 (.mv (.v (.pointer none)))]) (.seq (rg 9 [oP 9 (.mv (.v (.pointer none)))]) (.seq (rg 10 [oP 10 (.mv (.v (.pointer none)))]) (.seq (.seq (rg 16 [oP 15 (.faddr 1 t7),oP 16 (.load none t15)]) (.block 0 (.seq (rg 17 [oP 18 (.bi .eql t16 (.v (.string ⟨#[105,115,115]⟩))),oM 17 t18]) (.cond t17 (.reg 9 (some [0,1,2,3,4,5,6,7]) [oM 19 t0,oP 20 (.nk t19),oP 21 (.faddr 1 t20),oM 22 t0,oP 23 (.nk t22),oP 24 (.faddr 2 t23),oM 8 t21,oM 9 t24]) (.seq (rg 25 [oP 26 (.bi .eql t16 (.v (.string ⟨#[115,117,98]⟩))),oM 25 t26]) (.cond t25 (.reg 9 (some [0,1,2,3,4,5,6,7]) [oM 27 t0,oP 28 (.nk t27),oP 29 (.faddr 3 t28),oM 30 t0,oP 31 (.nk t30),oP 32 (.faddr 4 t31),oM 8 t29,oM 9 t32]) (.seq (rg 33 [oP 34 (.bi .eql t16 (.v (.string ⟨#[106,116,105]⟩))),oM 33 t34]) (.cond t33 (.reg 9 (some [0,1,2,3,4,5,6,7]) [oM 35 t0,oP 36 (.nk t35),oP 37 (.faddr 7 t36),oM 38 t0,oP 39 (.nk t38),oP 40 (.faddr 8 t39),oM 8 t37,oM 9 t40]) (.seq (rg 41 [oP 42 (.bi .eql t16 (.v (.string ⟨#[101,120,112]⟩))),oM 41 t42]) (.cond t41 (rg 10 [oM 43 t0,oP 44 (.nk t43),oP 45 (.faddr 9 t44),oM 10 t45]) (.seq (rg 46 [oP 47 (.bi .eql t16 (.v (.string ⟨#[110,98,102]⟩))),oM 46 t47]) (.cond t46 (rg 10 [oM 48 t0,oP 49 (.nk t48),oP 50 (.faddr 11 t49),oM 10 t50]) (.seq (rg 51 [oP 52 (.bi .eql t16 (.v (.string ⟨#[105,97,116]⟩))),oM 51 t52]) (.cond t51 (rg 10 [oM 53 t0,oP 54 (.nk t53),oP 55 (.faddr 13 t54),oM 10 t55]) .skip)))))))))))))) (.seq (.block 1 (.seq (rg 56 [oM 57 t8,oP 58 (.ext (.ptrEq true) [t57,(.v (.pointer none))]),oM 56 t58]) (.cond t56 (.seq (rg 0 [oM 59 t8,oM 60 t9,oP 61 (.faddr 2 t7),oP 62 (.load none t61),oP 63 (.nk t59),oN (.store 1 t63 t62),oP 64 (.nk t60),oN (.store 1 t64 vT)]) (.seq (rg 6 [oP 65 (.faddr 0 t7),oP 66 (.load none t65),oP 67 (.bi .eql t66 (vI 5)),oM 6 t67]) (.canon [(1000000,some 5,.u8,0),(3000003,none,.u8,0)] [6] .ret))) (.seq (rg 68 [oM 69 t10,oP 70 (.ext (.ptrEq true) [t69,(.v (.pointer none))]),oM 68 t70]) (.cond t68 (.seq (rg 0 [oM 71 t10,oP 72 (.faddr 4 t7),oP 73 (.load none t72),oP 74 (.build [.bool false,.int .i64 0] [(0,1,vT),(1,1,t73)]),oP 75 (.nk t71),oN (.store 2 t75 t74)]) (.seq (rg 6 [oP 76 (.faddr 0 t7),oP 77 (.load none t76),oP 78 (.bi .eql t77 (vI 4)),oM 79 t78,oF 80 (.faddr 3 t7) 79,oF 81 (.load none t80) 79,oP 82 (.pick t79 t81 vF),oM 6 t82]) (.canon [(1000000,some 5,.u8,0),(3000003,none,.u8,0)] [6] .ret))) (.seq (rg 83 [oP 84 (.faddr 1 t7),oP 85 (.load none t84),oP 86 (.bi .eql t85 (.v (.string ⟨#[97,117,100]⟩))),oM 83 t86]) (.cond t83 (.seq (rg 6 [oM 87 t0,oM 88 t1,oM 89 t2,oP 90 (.call 44 [t87,t88,t89]),oM 6 t90]) (.canon [(1000000,some 5,.u8,0),(3000003,none,.u8,0)] [6] .ret)) .skip))))))) (.seq (rg 6 [oP 6 (.mv vT)]) (.canon [(1000000,some 5,.u8,0),(3000003,none,.u8,0)] [6] .ret)))))))))
def zae_s (c:qGj) (v:(List Eng.Node)) (at_:Int):Option (qGj × Bool) :=
 gd (0≤at_∧at_<v.length) <|
 gd ((Int.toNat at_)<v.length) <|
 bif decide (((v.getD (Int.toNat at_) (ET.dft .node)).key)=(⟨#[105,115,115]⟩:BA)) then (
  some ({c with iss:=(v.getD (Int.toNat at_) (ET.dft .node)).text,hasIss:=true:qGj},decide (((v.getD (Int.toNat at_) (ET.dft .node)).kind)=(5:Int))))
 else (
  bif decide (((v.getD (Int.toNat at_) (ET.dft .node)).key)=(⟨#[115,117,98]⟩:BA)) then (
   some ({c with sub:=(v.getD (Int.toNat at_) (ET.dft .node)).text,hasSub:=true:qGj},decide (((v.getD (Int.toNat at_) (ET.dft .node)).kind)=(5:Int))))
  else (
   bif decide (((v.getD (Int.toNat at_) (ET.dft .node)).key)=(⟨#[106,116,105]⟩:BA)) then (
    some ({c with jti:=(v.getD (Int.toNat at_) (ET.dft .node)).text,hasJti:=true:qGj},decide (((v.getD (Int.toNat at_) (ET.dft .node)).kind)=(5:Int))))
   else (
    bif decide (((v.getD (Int.toNat at_) (ET.dft .node)).key)=(⟨#[101,120,112]⟩:BA)) then (
     some ({c with exp_:=(⟨true,(v.getD (Int.toNat at_) (ET.dft .node)).int⟩:qGk):qGj},((decide (((v.getD (Int.toNat at_) (ET.dft .node)).kind)=(4:Int))) && ((v.getD (Int.toNat at_) (ET.dft .node)).whole))))
    else (
     bif decide (((v.getD (Int.toNat at_) (ET.dft .node)).key)=(⟨#[110,98,102]⟩:BA)) then (
      some ({c with nbf:=(⟨true,(v.getD (Int.toNat at_) (ET.dft .node)).int⟩:qGk):qGj},((decide (((v.getD (Int.toNat at_) (ET.dft .node)).kind)=(4:Int))) && ((v.getD (Int.toNat at_) (ET.dft .node)).whole))))
     else (
      bif decide (((v.getD (Int.toNat at_) (ET.dft .node)).key)=(⟨#[105,97,116]⟩:BA)) then (
       some ({c with iat:=(⟨true,(v.getD (Int.toNat at_) (ET.dft .node)).int⟩:qGk):qGj},((decide (((v.getD (Int.toNat at_) (ET.dft .node)).kind)=(4:Int))) && ((v.getD (Int.toNat at_) (ET.dft .node)).whole))))
      else (
       bif decide (((v.getD (Int.toNat at_) (ET.dft .node)).key)=(⟨#[97,117,100]⟩:BA)) then (
        (zad_s c v at_).bind fun r2 =>
        some ({r2.1 with value:=c.value:qGj},r2.2))
       else (
        some (c,true))))))))
def zae_c:CS:=mkC (qAa (dVC (dCO (dH 0 0))) (qAa (dVC (dCO (dO 1))) (qAa (dVC (dCO dZ)) dNil))) (qAa zDJW2 zDJW3) (fun x y=>zae_s (zYJW0 y) y.2.1 x.2.2.1) (fun x y r=>.c (.o (.vB r.2))) fun x y r=>[.cells 27 [.own 2,.vS r.1.iss,.vB r.1.hasIss,.vS r.1.sub,.vB r.1.hasSub,.own 4,.vB r.1.hasAud,.vS r.1.jti,.vB r.1.hasJti,.vB r.1.exp_.has,.vI r.1.exp_.at_,.vB r.1.nbf.has,.vI r.1.nbf.at_,.vB r.1.iat.has,.vI r.1.iat.at_],.view .node y.2.1,.view .node y.2.2.1,.dead,.row .str 9 r.1.aud]
theorem zae_val:qAf Tryz.prog 28 zae_c:=vl0 zae_q [.tmp 6] 91 17 4 [(44,zad_w)] ⟨zad_ok,tV⟩ fun x y=>by
 simp only [zae_s,-eq_self,sZ];kernel_rfl
def zae_w:CQ:=qBs [(0,some 0,some (.node,47)),(0,some 5,some (.str,9)),(1,none,some (.node,47))] (qB4 [true,false,false,true] zae_c)
theorem zae_ok:qAe Tryz.prog 28 zae_w:=qAv zae_val
def zac_b0:IQ:=(.loop [2,4,7,27,28,29] (.seq (rg 30 [oP 30 (.bi .lss t29 t28)]) (.seq (.cond t30 .skip (.cn [2,4,7] (.exit 0))) (.seq (.block 1 (.seq (rg 9 [oP 31 (.iaddr 1 t27 t29),oP 32 (.load none t31),oM 9 t32]) (.seq (rg 36 [oM 33 t4,oM 34 t9,oP 35 (.call 28 [t7,t33,t34]),oP 36 (.un .not t35)]) (.cond t36 (.seq (rg 3 [oP 37 (.build [.slice none 0 0,.string ⟨#[]⟩,.bool false,.string ⟨#[]⟩,.bool false,.slice none 0 0,.bool false,.string ⟨#[]⟩,.bool false,.bool false,.int .i64 0,.bool false,.int .i64 0,.bool false,.int .i64 0] []),oN (.store 15 t2 t37),oP 3 (.mv (vI 131))]) (.canon [(2,some 0,.node,47),(2,some 5,.str,9)] [2,3] .ret)) .skip)))) (rg 29 [oP 38 (.bi .add t29 (vI 1)),oM 29 t38])))))
def zac_q:IQ:=(.seq (rg 3 [oP 2 (.alloc 27 [.slice none 0 0,.string ⟨#[]⟩,.bool false,.string ⟨#[]⟩,.bool false,.slice none 0 0,.bool false,.string ⟨#[]⟩,.bool false,.bool false,.int .i64 0,.bool false,.int .i64 0,.bool false,.int .i64 0]),oP 3 (.mv (vI 0))]) (.seq (rg 6 [oM 11 t0,oP 12 (.call 26 [t11]),oM 10 t12,oP 13 (.extract t10 0),oP 14 (.extract t10 1),oP 15 (.extract t10 2),oM 4 t13,oM 5 t14,oM 6 t15]) (.seq (.seq (rg 17 [oM 16 t5,oP 17 (.bi .neq t16 (vI 0))]) (.cond t17 (.seq (rg 3 [oP 18 (.build [.slice none 0 0,.string ⟨#[]⟩,.bool false,.string ⟨#[]⟩,.bool false,.slice none 0 0,.bool false,.string ⟨#[]⟩,.bool false,.bool false,.int .i64 0,.bool false,.int .i64 0,.bool false,.int .i64 0] []),oM 19 t5,oN (.store 15 t2 t18),oM 3 t19]) (.canon [(2,some 0,.node,47),(2,some 5,.str,9)] [2,3] .ret)) .skip)) (.seq (.seq (rg 24 [oM 20 t4,oP 21 (.iaddr 6 t20 (vI 0)),oP 22 (.faddr 0 t21),oP 23 (.load none t22),oP 24 (.bi .neq t23 (vI 7))]) (.cond t24 (.seq (rg 3 [oP 25 (.build [.slice none 0 0,.string ⟨#[]⟩,.bool false,.string ⟨#[]⟩,.bool false,.slice none 0 0,.bool false,.string ⟨#[]⟩,.bool false,.bool false,.int .i64 0,.bool false,.int .i64 0,.bool false,.int .i64 0] []),oN (.store 15 t2 t25),oP 3 (.mv (vI 130))]) (.canon [(2,some 0,.node,47),(2,some 5,.str,9)] [2,3] .ret)) .skip)) (.seq (rg 7 [oP 7 (.alloc 27 [.slice none 0 0,.string ⟨#[]⟩,.bool false,.string ⟨#[]⟩,.bool false,.slice none 0 0,.bool false,.string ⟨#[]⟩,.bool false,.bool false,.int .i64 0,.bool false,.int .i64 0,.bool false,.int .i64 0])]) (.seq (.seq (rg 29 [oM 26 t4,oP 27 (.call 27 [t26,(vI 0)]),oP 28 (.len t27),oP 29 (.mv (vI 0))]) (.block 0 (.canon [(7,some 0,.node,47),(7,some 5,.str,9)] [2,4,7,27,28,29] (.sub 0 zac_b0)))) (.seq (rg 0 [oM 39 t4,oP 40 (.faddr 0 t7),oN (.store 1 t40 t39)]) (.seq (rg 3 [oP 41 (.load (some 15) t7),oN (.store 15 t2 t41),oP 3 (.mv (vI 0))]) (.canon [(2,some 0,.node,47),(2,some 5,.str,9)] [2,3] .ret)))))))))
def zac_p0_step (x28_ x29_:Int) (v:List Eng.Node) (qHq:BA) (qG5:Bool) (qHs:BA) (qG6 qG4:Bool) (qHr:BA) (qHe qGz:Bool) (qHd:Int) (qG9:Bool) (qHg:Int) (qG0:Bool) (qHf:Int) (x27_:List Int) (qIu:List Eng.Node) (qH0:List BA):Option ((Int × BA × Bool × BA × Bool × Bool × BA × Bool × Bool × Int × Bool × Int × Bool × Int × (List BA)) ⊕ ((Int × BA × Bool × BA × Bool × Bool × BA × Bool × Bool × Int × Bool × Int × Bool × Int × (List Eng.Node) × (List BA)) ⊕ (BA × Bool × BA × Bool × Bool × BA × Bool × Bool × Int × Bool × Int × Bool × Int × (List BA)))) :=
 bif decide (x29_<x28_) then (
  gd (0≤x29_∧x29_<x27_.length) <|
  gd ((Int.toNat x29_)<x27_.length) <|
  (zae_s (⟨qIu,qHq,qG5,qHs,qG6,qH0,qG4,qHr,qHe,(⟨qGz,qHd⟩:qGk),(⟨qG9,qHg⟩:qGk),(⟨qG0,qHf⟩:qGk)⟩:qGj) v (x27_.getD (Int.toNat x29_) (ET.dft .i64))).bind fun r54 =>
  bif (!r54.2) then (
   some (.inr (.inl ((131:Int),(⟨#[]⟩:BA),false,(⟨#[]⟩:BA),false,false,(⟨#[]⟩:BA),false,false,(0:Int),false,(0:Int),false,(0:Int),[],[]))))
  else (
   gd (qAc (x29_+(1:Int))) <|
   some (.inl ((x29_+(1:Int)),r54.1.iss,r54.1.hasIss,r54.1.sub,r54.1.hasSub,r54.1.hasAud,r54.1.jti,r54.1.hasJti,r54.1.exp_.has,r54.1.exp_.at_,r54.1.nbf.has,r54.1.nbf.at_,r54.1.iat.has,r54.1.iat.at_,r54.1.aud))))
 else (
  some (.inr (.inr (qHq,qG5,qHs,qG6,qG4,qHr,qHe,qGz,qHd,qG9,qHg,qG0,qHf,qH0))))
def zac_p0 (x28_ x29_:Int) (v:List Eng.Node) (qHq:BA) (qG5:Bool) (qHs:BA) (qG6 qG4:Bool) (qHr:BA) (qHe qGz:Bool) (qHd:Int) (qG9:Bool) (qHg:Int) (qG0:Bool) (qHf:Int) (x27_:List Int) (qIu:List Eng.Node) (qH0:List BA):Option ((Int × BA × Bool × BA × Bool × Bool × BA × Bool × Bool × Int × Bool × Int × Bool × Int × (List Eng.Node) × (List BA)) ⊕ (BA × Bool × BA × Bool × Bool × BA × Bool × Bool × Int × Bool × Int × Bool × Int × (List BA))) :=
 qAt (fun x:(Int × BA × Bool × BA × Bool × Bool × BA × Bool × Bool × Int × Bool × Int × Bool × Int × (List BA))=>zac_p0_step x28_ x.1 v x.2.1 x.2.2.1 x.2.2.2.1 x.2.2.2.2.1 x.2.2.2.2.2.1 x.2.2.2.2.2.2.1 x.2.2.2.2.2.2.2.1 x.2.2.2.2.2.2.2.2.1 x.2.2.2.2.2.2.2.2.2.1 x.2.2.2.2.2.2.2.2.2.2.1 x.2.2.2.2.2.2.2.2.2.2.2.1 x.2.2.2.2.2.2.2.2.2.2.2.2.1 x.2.2.2.2.2.2.2.2.2.2.2.2.2.1 x27_ qIu x.2.2.2.2.2.2.2.2.2.2.2.2.2.2) (x29_,qHq,qG5,qHs,qG6,qG4,qHr,qHe,qGz,qHd,qG9,qHg,qG0,qHf,qH0)
def zac_s (payload:BA):Option (qGj × Int) :=
 (zbb_s payload).bind fun r52 =>
 bif (!decide (r52.2.1=(0:Int))) then (
  some ((⟨[],(⟨#[]⟩:BA),false,(⟨#[]⟩:BA),false,[],false,(⟨#[]⟩:BA),false,(⟨false,(0:Int)⟩:qGk),(⟨false,(0:Int)⟩:qGk),(⟨false,(0:Int)⟩:qGk)⟩:qGj),r52.2.1))
 else (
  gd (0≤(0:Int)∧(0:Int)<r52.1.length) <|
  gd ((Int.toNat (0:Int))<r52.1.length) <|
  gd ((Int.toNat (0:Int))<r52.1.length) <|
  bif (!decide (((r52.1.getD (Int.toNat (0:Int)) (ET.dft .node)).kind)=(7:Int))) then (
   some ((⟨[],(⟨#[]⟩:BA),false,(⟨#[]⟩:BA),false,[],false,(⟨#[]⟩:BA),false,(⟨false,(0:Int)⟩:qGk),(⟨false,(0:Int)⟩:qGk),(⟨false,(0:Int)⟩:qGk)⟩:qGj),(130:Int)))
  else (
   (zaz_s r52.1 (0:Int)).bind fun r53 =>
   (zac_p0 (r53.length:Int) (0:Int) r52.1 (⟨#[]⟩:BA) false (⟨#[]⟩:BA) false false (⟨#[]⟩:BA) false false (0:Int) false (0:Int) false (0:Int) r53 [] []).bind fun o55=>(Sum.elim (fun (o55_0:Int × BA × Bool × BA × Bool × Bool × BA × Bool × Bool × Int × Bool × Int × Bool × Int × (List Eng.Node) × (List BA)) =>
    some ((⟨o55_0.2.2.2.2.2.2.2.2.2.2.2.2.2.2.1,o55_0.2.1,o55_0.2.2.1,o55_0.2.2.2.1,o55_0.2.2.2.2.1,o55_0.2.2.2.2.2.2.2.2.2.2.2.2.2.2.2,o55_0.2.2.2.2.2.1,o55_0.2.2.2.2.2.2.1,o55_0.2.2.2.2.2.2.2.1,(⟨o55_0.2.2.2.2.2.2.2.2.1,o55_0.2.2.2.2.2.2.2.2.2.1⟩:qGk),(⟨o55_0.2.2.2.2.2.2.2.2.2.2.1,o55_0.2.2.2.2.2.2.2.2.2.2.2.1⟩:qGk),(⟨o55_0.2.2.2.2.2.2.2.2.2.2.2.2.1,o55_0.2.2.2.2.2.2.2.2.2.2.2.2.2.1⟩:qGk)⟩:qGj),o55_0.1)) (fun (o55_1:BA × Bool × BA × Bool × Bool × BA × Bool × Bool × Int × Bool × Int × Bool × Int × (List BA)) =>
    some ((⟨r52.1,o55_1.1,o55_1.2.1,o55_1.2.2.1,o55_1.2.2.2.1,o55_1.2.2.2.2.2.2.2.2.2.2.2.2.2,o55_1.2.2.2.2.1,o55_1.2.2.2.2.2.1,o55_1.2.2.2.2.2.2.1,(⟨o55_1.2.2.2.2.2.2.2.1,o55_1.2.2.2.2.2.2.2.2.1⟩:qGk),(⟨o55_1.2.2.2.2.2.2.2.2.2.1,o55_1.2.2.2.2.2.2.2.2.2.2.1⟩:qGk),(⟨o55_1.2.2.2.2.2.2.2.2.2.2.2.1,o55_1.2.2.2.2.2.2.2.2.2.2.2.2.1⟩:qGk)⟩:qGj),(0:Int)))) o55))
def zac_G:Nat→Option CQ:=tblQ [(26,zbb_w),(27,zaz_w),(28,zae_w)]
def zac_d0:=(dQS (qAa (dSO 2 (dH 0 0)) (qAa (dSO 4 (dO 1)) (qAa (dSO 7 (dH 2 0)) (qAa (dSO 27 (dO 3)) (qAa (dSO 28 dZ) (qAa (dSO 29 dZ) dNil)))))) (qAa (qBi 27 (qAa dNS (qAa dS (qAa dB (qAa dS (qAa dB (qAa dNS zDJW1))))))) (qAa (dRow .node 47) (qAa (qBi 27 (qAa (dO 4) (qAa dS (qAa dB (qAa dS (qAa dB (qAa (dO 5) zDJW1))))))) (qAa (dRow .i64 3) (qAa (dRow .node 47) (qAa (dRow .str 9) dNil)))))))
def zac_l0:SubQ:=mkL zac_d0 (fun x=>zac_p0 x.1.2.2.2.2.1 x.1.2.2.2.2.2.1 x.2.2.1 x.2.2.2.1.2.1 x.2.2.2.1.2.2.1 x.2.2.2.1.2.2.2.1 x.2.2.2.1.2.2.2.2.1 x.2.2.2.1.2.2.2.2.2.2.1 x.2.2.2.1.2.2.2.2.2.2.2.1 x.2.2.2.1.2.2.2.2.2.2.2.2.1 x.2.2.2.1.2.2.2.2.2.2.2.2.2.1 x.2.2.2.1.2.2.2.2.2.2.2.2.2.2.1 x.2.2.2.1.2.2.2.2.2.2.2.2.2.2.2.1 x.2.2.2.1.2.2.2.2.2.2.2.2.2.2.2.2.1 x.2.2.2.1.2.2.2.2.2.2.2.2.2.2.2.2.2.1 x.2.2.2.1.2.2.2.2.2.2.2.2.2.2.2.2.2.2.1 x.2.2.2.2.1 x.2.2.2.2.2.1 x.2.2.2.2.2.2.1) fun x r R kn kx kr=>(Sum.elim (fun (r_0:Int × BA × Bool × BA × Bool × Bool × BA × Bool × Bool × Int × Bool × Int × Bool × Int × (List Eng.Node) × (List BA))=>kr ⟨[sL 2 (.hd 0 0),sL 3 (.vI r_0.1)],[],[.cells 27 [.own 1,.vS r_0.2.1,.vB r_0.2.2.1,.vS r_0.2.2.2.1,.vB r_0.2.2.2.2.1,.own 2,.vB r_0.2.2.2.2.2.1,.vS r_0.2.2.2.2.2.2.1,.vB r_0.2.2.2.2.2.2.2.1,.vB r_0.2.2.2.2.2.2.2.2.1,.vI r_0.2.2.2.2.2.2.2.2.2.1,.vB r_0.2.2.2.2.2.2.2.2.2.2.1,.vI r_0.2.2.2.2.2.2.2.2.2.2.2.1,.vB r_0.2.2.2.2.2.2.2.2.2.2.2.2.1,.vI r_0.2.2.2.2.2.2.2.2.2.2.2.2.2.1],.row .node 47 r_0.2.2.2.2.2.2.2.2.2.2.2.2.2.2.1,.row .str 9 r_0.2.2.2.2.2.2.2.2.2.2.2.2.2.2.2]⟩) (fun (r_1:BA × Bool × BA × Bool × Bool × BA × Bool × Bool × Int × Bool × Int × Bool × Int × (List BA))=>kx 0 ⟨[sL 2 (.hd 0 0),sL 4 (.own 1),sL 7 (.hd 2 0)],[],[.cells 27 [.val (.slice none 0 0),.vS x.2.1.2.1,.vB x.2.1.2.2.1,.vS x.2.1.2.2.2.1,.vB x.2.1.2.2.2.2.1,.val (.slice none 0 0),.vB x.2.1.2.2.2.2.2.2.1,.vS x.2.1.2.2.2.2.2.2.2.1,.vB x.2.1.2.2.2.2.2.2.2.2.1,.vB x.2.1.2.2.2.2.2.2.2.2.2.1,.vI x.2.1.2.2.2.2.2.2.2.2.2.2.1,.vB x.2.1.2.2.2.2.2.2.2.2.2.2.2.1,.vI x.2.1.2.2.2.2.2.2.2.2.2.2.2.2.1,.vB x.2.1.2.2.2.2.2.2.2.2.2.2.2.2.2.1,.vI x.2.1.2.2.2.2.2.2.2.2.2.2.2.2.2.2.1],.row .node 47 x.2.2.1,.cells 27 [.own 3,.vS r_1.1,.vB r_1.2.1,.vS r_1.2.2.1,.vB r_1.2.2.2.1,.own 4,.vB r_1.2.2.2.2.1,.vS r_1.2.2.2.2.2.1,.vB r_1.2.2.2.2.2.2.1,.vB r_1.2.2.2.2.2.2.2.1,.vI r_1.2.2.2.2.2.2.2.2.1,.vB r_1.2.2.2.2.2.2.2.2.2.1,.vI r_1.2.2.2.2.2.2.2.2.2.2.1,.vB r_1.2.2.2.2.2.2.2.2.2.2.2.1,.vI r_1.2.2.2.2.2.2.2.2.2.2.2.2.1],.row .node 47 x.2.2.2.2.2.1,.row .str 9 r_1.2.2.2.2.2.2.2.2.2.2.2.2.2]⟩)) r
def zac_L:Nat→SubQ:=tblL [(0,zac_l0)]
theorem zac_sub0:qA0 zac_L zac_G 0 30 42 0 zac_b0:=qAh (show zac_L 0=zac_l0 from by kernel_rfl) fun x R kn kx kr=>qAg (step:=fun y=>zac_p0_step x.1.2.2.2.2.1 y.1 x.2.2.1 y.2.1 y.2.2.1 y.2.2.2.1 y.2.2.2.2.1 y.2.2.2.2.2.1 y.2.2.2.2.2.2.1 y.2.2.2.2.2.2.2.1 y.2.2.2.2.2.2.2.2.1 y.2.2.2.2.2.2.2.2.2.1 y.2.2.2.2.2.2.2.2.2.2.1 y.2.2.2.2.2.2.2.2.2.2.2.1 y.2.2.2.2.2.2.2.2.2.2.2.2.1 y.2.2.2.2.2.2.2.2.2.2.2.2.2.1 x.2.2.2.2.1 x.2.2.2.2.2.1 y.2.2.2.2.2.2.2.2.2.2.2.2.2.2) (enc:=fun (y:Int × BA × Bool × BA × Bool × Bool × BA × Bool × Bool × Int × Bool × Int × Bool × Int × (List BA))=>zac_d0.e ((x.1.1,x.1.2.1,x.1.2.2.1,x.1.2.2.2.1,x.1.2.2.2.2.1,y.1,x.1.2.2.2.2.2.2),(x.2.1,x.2.2.1,(x.2.2.2.1.1,y.2.1,y.2.2.1,y.2.2.2.1,y.2.2.2.2.1,x.2.2.2.1.2.2.2.2.2.1,y.2.2.2.2.2.1,y.2.2.2.2.2.2.1,y.2.2.2.2.2.2.2.1,y.2.2.2.2.2.2.2.2.1,y.2.2.2.2.2.2.2.2.2.1,y.2.2.2.2.2.2.2.2.2.2.1,y.2.2.2.2.2.2.2.2.2.2.2.1,y.2.2.2.2.2.2.2.2.2.2.2.2.1,y.2.2.2.2.2.2.2.2.2.2.2.2.2.1,x.2.2.2.1.2.2.2.2.2.2.2.2.2.2.2.2.2.2.2),x.2.2.2.2.1,x.2.2.2.2.2.1,y.2.2.2.2.2.2.2.2.2.2.2.2.2.2,x.2.2.2.2.2.2.2))) (fun y=>by kernel_rfl) (fun y ki=>by simp only [zac_p0_step,-eq_self,sZ]; kernel_rfl) (x.1.2.2.2.2.2.1,x.2.2.2.1.2.1,x.2.2.2.1.2.2.1,x.2.2.2.1.2.2.2.1,x.2.2.2.1.2.2.2.2.1,x.2.2.2.1.2.2.2.2.2.2.1,x.2.2.2.1.2.2.2.2.2.2.2.1,x.2.2.2.1.2.2.2.2.2.2.2.2.1,x.2.2.2.1.2.2.2.2.2.2.2.2.2.1,x.2.2.2.1.2.2.2.2.2.2.2.2.2.2.1,x.2.2.2.1.2.2.2.2.2.2.2.2.2.2.2.1,x.2.2.2.1.2.2.2.2.2.2.2.2.2.2.2.2.1,x.2.2.2.1.2.2.2.2.2.2.2.2.2.2.2.2.2.1,x.2.2.2.1.2.2.2.2.2.2.2.2.2.2.2.2.2.2.1,x.2.2.2.2.2.2.1)
def zac_c:CS:=mkC (qAa (dVC (dCO dS)) dNil) dNil (fun x y=>zac_s x.1) (fun x y r=>.tup [.agg [.own 0,.vS r.1.iss,.vB r.1.hasIss,.vS r.1.sub,.vB r.1.hasSub,.own 1,.vB r.1.hasAud,.vS r.1.jti,.vB r.1.hasJti,.vB r.1.exp_.has,.vI r.1.exp_.at_,.vB r.1.nbf.has,.vI r.1.nbf.at_,.vB r.1.iat.has,.vI r.1.iat.at_],.o (.vI r.2)]) fun x y r=>[.row .node 47 r.1.value,.row .str 9 r.1.aud]
theorem zac_val:qAf Tryz.prog 11 zac_c:=vl1 zac_q [.cell 2 (some 15),.tmp 3] 42 30 0 (show qA3 zac_L zac_G 0 30 42 [(0,zac_b0)] from ⟨zac_sub0,tV⟩) (qAq ⟨zbb_ok,zaz_ok,zae_ok,tV⟩) fun x y=>by
 simp only [zac_s,-eq_self,sZ];kernel_rfl
def zac_w:CQ:=qB4 [] zac_c
theorem zac_ok:qAe Tryz.prog 11 zac_w:=qBw zac_val
end
noncomputable section
structure qHc where
 client:BA
 nonce:BA
 hasNonce:Bool
 access:BA
 hasAccess:Bool
 code:BA
 hasCode:Bool
 maxAge:Int
 hasAge:Bool
 leeway:Int
structure idtoken_check where
 c:qGj
 a:Int
 w:qHc
 now:Int
def zat_q:IQ:=(.seq (rg 2 [oP 2 (.mv vF)]) (.seq (rg 2 [oM 3 t0,oP 4 (.nk t3),oP 5 (.faddr 16 t4),oP 6 (.faddr 9 t5),oP 7 (.load none t6),oP 8 (.bi .lss t7 (vI 0)),oM 9 t8,oE 10 (.mv t0) 9,oE 11 (.nk t10) 9,oE 12 (.faddr 16 t11) 9,oE 13 (.faddr 9 t12) 9,oE 14 (.load none t13) 9,oE 15 (.bi .gtr t14 (vI 600)) 9,oP 16 (.pick t9 vT t15),oM 17 t16,oE 18 (.mv t0) 17,oE 19 (.nk t18) 17,oE 20 (.faddr 16 t19) 17,oE 21 (.faddr 8 t20) 17,oE 22 (.load none t21) 17,oE 23 (.mv t22) 17,oF 24 (.mv t0) 23,oF 25 (.nk t24) 23,oF 26 (.faddr 16 t25) 23,oF 27 (.faddr 7 t26) 23,oF 28 (.load none t27) 23,oF 29 (.bi .lss t28 (vI 0)) 23,oF 30 (.mv t29) 23,oE 31 (.mv t0) 30,oE 32 (.nk t31) 30,oE 33 (.faddr 16 t32) 30,oE 34 (.faddr 7 t33) 30,oE 35 (.load none t34) 30,oE 36 (.bi .gtr t35 (vI 2147483648)) 30,oF 37 (.pick t30 vT t36) 23,oE 38 (.pick t23 t37 vF) 17,oP 39 (.pick t17 vT t38),oM 2 t39]) (.cn [2] .ret)))
def zat_s (k_:idtoken_check):Option Bool :=
 some (((decide (k_.w.leeway<(0:Int))) || (decide ((600:Int)<k_.w.leeway))) || (k_.w.hasAge && ((decide (k_.w.maxAge<(0:Int))) || (decide ((2147483648:Int)<k_.w.maxAge)))))
def zDHC1:=(qAa dB (qAa dS (qAa dB (qAa dB (qAa dZ (qAa dB (qAa dZ (qAa dB (qAa dZ (qAa dZ (qAa dS (qAa dS (qAa dB (qAa dS (qAa dB (qAa dS (qAa dB (qAa dZ (qAa dB (qAa dZ (qAa dZ dNil)))))))))))))))))))))
def zDHC2:=(qBi 51 (qAa (dO 1) (qAa dS (qAa dB (qAa dS (qAa dB (qAa (dO 2) zDHC1)))))))
def zDHC3:=(qAa (qBa .node) (qAa (qBa .str) dNil))
def zYHC0 (y:dTy (qAa zDHC2 zDHC3)):idtoken_check:=(⟨(⟨y.2.1,y.1.2.1,y.1.2.2.1,y.1.2.2.2.1,y.1.2.2.2.2.1,y.2.2.1,y.1.2.2.2.2.2.2.1,y.1.2.2.2.2.2.2.2.1,y.1.2.2.2.2.2.2.2.2.1,(⟨y.1.2.2.2.2.2.2.2.2.2.1,y.1.2.2.2.2.2.2.2.2.2.2.1⟩:qGk),(⟨y.1.2.2.2.2.2.2.2.2.2.2.2.1,y.1.2.2.2.2.2.2.2.2.2.2.2.2.1⟩:qGk),(⟨y.1.2.2.2.2.2.2.2.2.2.2.2.2.2.1,y.1.2.2.2.2.2.2.2.2.2.2.2.2.2.2.1⟩:qGk)⟩:qGj),y.1.2.2.2.2.2.2.2.2.2.2.2.2.2.2.2.1,(⟨y.1.2.2.2.2.2.2.2.2.2.2.2.2.2.2.2.2.1,y.1.2.2.2.2.2.2.2.2.2.2.2.2.2.2.2.2.2.1,y.1.2.2.2.2.2.2.2.2.2.2.2.2.2.2.2.2.2.2.1,y.1.2.2.2.2.2.2.2.2.2.2.2.2.2.2.2.2.2.2.2.1,y.1.2.2.2.2.2.2.2.2.2.2.2.2.2.2.2.2.2.2.2.2.1,y.1.2.2.2.2.2.2.2.2.2.2.2.2.2.2.2.2.2.2.2.2.2.1,y.1.2.2.2.2.2.2.2.2.2.2.2.2.2.2.2.2.2.2.2.2.2.2.1,y.1.2.2.2.2.2.2.2.2.2.2.2.2.2.2.2.2.2.2.2.2.2.2.2.1,y.1.2.2.2.2.2.2.2.2.2.2.2.2.2.2.2.2.2.2.2.2.2.2.2.2.1,y.1.2.2.2.2.2.2.2.2.2.2.2.2.2.2.2.2.2.2.2.2.2.2.2.2.2.1⟩:qHc),y.1.2.2.2.2.2.2.2.2.2.2.2.2.2.2.2.2.2.2.2.2.2.2.2.2.2.2.1⟩:idtoken_check)
def zYHC1 (y:dTy (qAa zDHC2 zDHC3)):List SB:=[.cells 51 [.own 1,.vS y.1.2.1,.vB y.1.2.2.1,.vS y.1.2.2.2.1,.vB y.1.2.2.2.2.1,.own 2,.vB y.1.2.2.2.2.2.2.1,.vS y.1.2.2.2.2.2.2.2.1,.vB y.1.2.2.2.2.2.2.2.2.1,.vB y.1.2.2.2.2.2.2.2.2.2.1,.vI y.1.2.2.2.2.2.2.2.2.2.2.1,.vB y.1.2.2.2.2.2.2.2.2.2.2.2.1,.vI y.1.2.2.2.2.2.2.2.2.2.2.2.2.1,.vB y.1.2.2.2.2.2.2.2.2.2.2.2.2.2.1,.vI y.1.2.2.2.2.2.2.2.2.2.2.2.2.2.2.1,.vI y.1.2.2.2.2.2.2.2.2.2.2.2.2.2.2.2.1,.vS y.1.2.2.2.2.2.2.2.2.2.2.2.2.2.2.2.2.1,.vS y.1.2.2.2.2.2.2.2.2.2.2.2.2.2.2.2.2.2.1,.vB y.1.2.2.2.2.2.2.2.2.2.2.2.2.2.2.2.2.2.2.1,.vS y.1.2.2.2.2.2.2.2.2.2.2.2.2.2.2.2.2.2.2.2.1,.vB y.1.2.2.2.2.2.2.2.2.2.2.2.2.2.2.2.2.2.2.2.2.1,.vS y.1.2.2.2.2.2.2.2.2.2.2.2.2.2.2.2.2.2.2.2.2.2.1,.vB y.1.2.2.2.2.2.2.2.2.2.2.2.2.2.2.2.2.2.2.2.2.2.2.1,.vI y.1.2.2.2.2.2.2.2.2.2.2.2.2.2.2.2.2.2.2.2.2.2.2.2.1,.vB y.1.2.2.2.2.2.2.2.2.2.2.2.2.2.2.2.2.2.2.2.2.2.2.2.2.1,.vI y.1.2.2.2.2.2.2.2.2.2.2.2.2.2.2.2.2.2.2.2.2.2.2.2.2.2.1,.vI y.1.2.2.2.2.2.2.2.2.2.2.2.2.2.2.2.2.2.2.2.2.2.2.2.2.2.2.1],.view .node y.2.1,.view .str y.2.2.1]
def zat_c:CS:=mkC (qAa (dVC (dCO (dH 0 0))) dNil) (qAa zDHC2 zDHC3) (fun x y=>zat_s (zYHC0 y)) (fun x y r=>.c (.o (.vB r))) fun x y r=>(zYHC1 y)
theorem zat_val:qAf Tryz.prog 14 zat_c:=vl0 zat_q [.tmp 2] 40 3 3 [] trivial fun x y=>by
 simp only [zat_s,-eq_self,sZ];kernel_rfl
def zat_w:CQ:=qBs [(0,some 0,some (.node,47)),(0,some 5,some (.str,9))] (qB4 [true,false,false] zat_c)
theorem zat_ok:qAe Tryz.prog 14 zat_w:=qAv zat_val
def zal_q:IQ:=(.seq (rg 2 [oP 2 (.mv vF)]) (.seq (rg 2 (rF 3 t0 15++[oP 7 (.call 29 [t6]),oP 8 (.bi .eql t7 (vI 0)),oM 2 t8])) (.cn [2] .ret)))
def zal_s (k_:idtoken_check):Option Bool :=
 (zav_s k_.a).bind fun r1 =>
 some (decide (r1=(0:Int)))
def zal_c:CS:=mkC (qAa (dVC (dCO (dH 0 0))) dNil) (qAa zDHC2 zDHC3) (fun x y=>zal_s (zYHC0 y)) (fun x y r=>.c (.o (.vB r))) fun x y r=>(zYHC1 y)
theorem zal_val:qAf Tryz.prog 15 zal_c:=vl0 zal_q [.tmp 2] 9 3 3 [(29,zav_w)] ⟨zav_ok,tV⟩ fun x y=>by
 simp only [zal_s,-eq_self,sZ];kernel_rfl
def zal_w:CQ:=qBs [(0,some 0,some (.node,47)),(0,some 5,some (.str,9))] (qB4 [true,false,false] zal_c)
theorem zal_ok:qAe Tryz.prog 15 zal_w:=qAv zal_val
def zar_q:IQ:=(.seq (rg 2 [oP 2 (.mv vF)]) (.seq (rg 2 [oM 3 t0,oP 4 (.nk t3),oP 5 (.faddr 0 t4),oP 6 (.faddr 2 t5),oP 7 (.load none t6),oM 8 t7,oF 9 (.mv t0) 8,oF 10 (.nk t9) 8,oF 11 (.faddr 0 t10) 8,oF 12 (.faddr 4 t11) 8,oF 13 (.load none t12) 8,oP 14 (.pick t8 t13 vF),oM 15 t14,oF 16 (.mv t0) 15,oF 17 (.nk t16) 15,oF 18 (.faddr 0 t17) 15,oF 19 (.faddr 6 t18) 15,oF 20 (.load none t19) 15,oP 21 (.pick t15 t20 vF),oM 22 t21,oF 23 (.mv t0) 22,oF 24 (.nk t23) 22,oF 25 (.faddr 0 t24) 22,oF 26 (.faddr 9 t25) 22,oF 27 (.faddr 0 t26) 22,oF 28 (.load none t27) 22,oP 29 (.pick t22 t28 vF),oM 30 t29,oF 31 (.mv t0) 30,oF 32 (.nk t31) 30,oF 33 (.faddr 0 t32) 30,oF 34 (.faddr 13 t33) 30,oF 35 (.faddr 0 t34) 30,oF 36 (.load none t35) 30,oP 37 (.pick t30 t36 vF),oP 38 (.un .not t37),oM 2 t38]) (.cn [2] .ret)))
def zar_s (k_:idtoken_check):Option Bool :=
 some (!((((k_.c.hasIss && k_.c.hasSub) && k_.c.hasAud) && k_.c.exp_.has) && k_.c.iat.has))
def zar_c:CS:=mkC (qAa (dVC (dCO (dH 0 0))) dNil) (qAa zDHC2 zDHC3) (fun x y=>zar_s (zYHC0 y)) (fun x y r=>.c (.o (.vB r))) fun x y r=>(zYHC1 y)
theorem zar_val:qAf Tryz.prog 16 zar_c:=vl0 zar_q [.tmp 2] 39 3 3 [] trivial fun x y=>by
 simp only [zar_s,-eq_self,sZ];kernel_rfl
def zar_w:CQ:=qBs [(0,some 0,some (.node,47)),(0,some 5,some (.str,9))] (qB4 [true,false,false] zar_c)
theorem zar_ok:qAe Tryz.prog 16 zar_w:=qAv zar_val
def zcz_b0:IQ:=(.loop [0,1,7,8] (.seq (rg 9 [oP 9 (.bi .lss t8 t7)]) (.seq (.cond t9 .skip (.cn [] (.exit 0))) (.seq (.block 1 (.seq (rg 5 [oM 10 t8,oM 5 t10]) (.seq (rg 16 [oM 11 t1,oM 12 t0,oM 13 t5,oP 14 (.iaddr 1 t12 t13),oP 15 (.load none t14),oP 16 (.bi .eql t11 t15)]) (.cond t16 (.seq (rg 4 [oM 17 t5,oM 4 t17]) (.cn [4] .ret)) .skip)))) (rg 8 [oP 18 (.bi .add t8 (vI 1)),oM 8 t18])))))
def zcz_q:IQ:=(.seq (rg 4 [oP 4 (.mv (vI 0))]) (.seq (.seq (rg 8 [oM 6 t0,oP 7 (.len t6),oP 8 (.mv (vI 0))]) (.block 0 (.cn [0,1,7,8] (.sub 0 zcz_b0)))) (.seq (rg 4 [oP 4 (.mv (.v (.int .i64 (-1))))]) (.cn [4] .ret))))
def qDc (v:BA) (x7_ x8_:Int) (s:List BA):Option (Int ⊕ (Int ⊕ Unit)) :=
 bif decide (x8_<x7_) then (
  gd (0≤x8_∧x8_<s.length) <|
  gd ((Int.toNat x8_)<s.length) <|
  bif decide (v=(s.getD (Int.toNat x8_) (ET.dft .str))) then (
   some (.inr (.inl x8_)))
  else (
   gd (qAc (x8_+(1:Int))) <|
   some (.inl (x8_+(1:Int)))))
 else (
  some (.inr (.inr ())))
def zcz_p0 (v:BA) (x7_ x8_:Int) (s:List BA):Option (Int ⊕ Unit) :=
 qAt (fun x:Int=>qDc v x7_ x s) x8_
def zcz_s (s:(List BA)) (v:BA):Option Int :=
 (zcz_p0 v (s.length:Int) (0:Int) s).bind fun o1=>(Sum.elim (fun (o1_0:Int) =>
  some o1_0) (fun (o1_1:Unit) =>
  some (-1:Int))) o1
def zcz_G:Nat→Option CQ:=tblQ []
def zcz_d0:=(dQS (qAa (dSO 0 (dO 0)) (qAa (dSO 1 dS) (qAa (dSO 7 dZ) (qAa (dSO 8 dZ) dNil)))) (qAa (qBa .str) dNil))
def zcz_l0:SubQ:=mkL zcz_d0 (fun x=>zcz_p0 x.1.2.1 x.1.2.2.1 x.1.2.2.2.1 x.2.1) fun x r R kn kx kr=>(Sum.elim (fun (r_0:Int)=>kr ⟨[sL 4 (.vI r_0)],[],[.view .str x.2.1]⟩) (fun (r_1:Unit)=>kx 0 ⟨[],[],[.view .str x.2.1]⟩)) r
def zcz_L:Nat→SubQ:=tblL [(0,zcz_l0)]
theorem zcz_sub0:qA0 zcz_L zcz_G 1 9 19 0 zcz_b0:=qAh (show zcz_L 0=zcz_l0 from by kernel_rfl) fun x R kn kx kr=>qAg (step:=fun y=>qDc x.1.2.1 x.1.2.2.1 y x.2.1) (enc:=fun (y:Int)=>zcz_d0.e ((x.1.1,x.1.2.1,x.1.2.2.1,y,x.1.2.2.2.2),x.2)) (fun y=>by kernel_rfl) (fun y ki=>by simp only [qDc,-eq_self,sZ]; kernel_rfl) x.1.2.2.2.1
def zcz_c:CS:=mkC (qAa (dVC (dCO (dO 0))) (qAa (dVC (dCO dS)) dNil)) (qAa (qBa .str) dNil) (fun x y=>zcz_s y.1 x.2.1) (fun x y r=>.c (.o (.vI r))) fun x y r=>[.view .str y.1]
theorem zcz_val:qAf Tryz.prog 52 zcz_c:=vl1 zcz_q [.tmp 4] 19 9 1 (show qA3 zcz_L zcz_G 1 9 19 [(0,zcz_b0)] from ⟨zcz_sub0,tV⟩) (fun f C h=>by cases h) fun x y=>by
 simp only [zcz_s,-eq_self,sZ];kernel_rfl
def zcz_w:CQ:=qBs [(0,none,some (.str,9))] (qCc [false] zcz_c)
theorem zcz_ok:qAe Tryz.prog 52 zcz_w:=qB3 zcz_val
def zcx_q:IQ:=(.seq (rg 4 [oP 4 (.mv vF)]) (.seq (rg 4 [oM 5 t0,oM 6 t1,oP 7 (.call 52 [t5,t6]),oP 8 (.bi .geq t7 (vI 0)),oM 4 t8]) (.cn [4] .ret)))
def zcx_s (s:(List BA)) (v:BA):Option Bool :=
 (zcz_s s v).bind fun r1 =>
 some (decide ((0:Int)≤r1))
def zcx_c:CS:=mkC (qAa (dVC (dCO (dO 0))) (qAa (dVC (dCO dS)) dNil)) (qAa (qBa .str) dNil) (fun x y=>zcx_s y.1 x.2.1) (fun x y r=>.c (.o (.vB r))) fun x y r=>[.view .str y.1]
theorem zcx_val:qAf Tryz.prog 36 zcx_c:=vl0 zcx_q [.tmp 4] 9 5 1 [(52,zcz_w)] ⟨zcz_ok,tV⟩ fun x y=>by
 simp only [zcx_s,-eq_self,sZ];kernel_rfl
def zcx_w:CQ:=qBs [(0,none,some (.str,9))] (qCc [false] zcx_c)
theorem zcx_ok:qAe Tryz.prog 36 zcx_w:=qB3 zcx_val
def zam_q:IQ:=(.seq (rg 2 [oP 2 (.mv vF)]) (.seq (.reg 2 (some [0,1,2,3,4,5,6,7,8,9,10,11,12]) [oM 3 t0,oP 4 (.nk t3),oP 5 (.faddr 0 t4),oP 6 (.faddr 5 t5),oP 7 (.load none t6),oM 8 t0,oP 9 (.nk t8),oP 10 (.faddr 16 t9),oP 11 (.faddr 0 t10),oP 12 (.load none t11),oP 13 (.call 36 [t7,t12]),oP 14 (.un .not t13),oM 2 t14]) (.cn [2] .ret)))
def zam_s (k_:idtoken_check):Option Bool :=
 (zcx_s k_.c.aud k_.w.client).bind fun r1 =>
 some (!r1)
def zam_c:CS:=mkC (qAa (dVC (dCO (dH 0 0))) dNil) (qAa zDHC2 zDHC3) (fun x y=>zam_s (zYHC0 y)) (fun x y r=>.c (.o (.vB r))) fun x y r=>(zYHC1 y)
theorem zam_val:qAf Tryz.prog 17 zam_c:=vl0 zam_q [.tmp 2] 15 3 3 [(36,zcx_w)] ⟨zcx_ok,tV⟩ fun x y=>by
 simp only [zam_s,-eq_self,sZ];kernel_rfl
def zam_w:CQ:=qBs [(0,some 0,some (.node,47)),(0,some 5,some (.str,9))] (qB4 [true,false,false] zam_c)
theorem zam_ok:qAe Tryz.prog 17 zam_w:=qAv zam_val
def zau_q:IQ:=(.seq (rg 6 [oP 6 (.mv vF)]) (.seq (rg 7 [oM 8 t0,oP 9 (.nk t8),oP 10 (.faddr 0 t9),oP 11 (.faddr 0 t10),oP 12 (.load none t11),oM 13 t1,oP 14 (.call 23 [t12,(vI 0),t13]),oM 7 t14]) (.seq (rg 6 [oM 15 t7,oP 16 (.bi .geq t15 (vI 0)),oM 17 t16,oF 18 (.mv t0) 17,oF 19 (.nk t18) 17,oF 20 (.faddr 0 t19) 17,oF 21 (.faddr 0 t20) 17,oF 22 (.load none t21) 17,oF 23 (.mv t7) 17,oF 24 (.iaddr 6 t22 t23) 17,oF 25 (.faddr 0 t24) 17,oF 26 (.load none t25) 17,oF 27 (.bi .eql t26 (vI 5)) 17,oP 28 (.pick t17 t27 vF),oM 29 t28,oF 30 (.mv t0) 29,oF 31 (.nk t30) 29,oF 32 (.faddr 0 t31) 29,oF 33 (.faddr 0 t32) 29,oF 34 (.load none t33) 29,oF 35 (.mv t7) 29,oF 36 (.iaddr 6 t34 t35) 29,oF 37 (.faddr 2 t36) 29,oF 38 (.load none t37) 29,oF 39 (.mv t2) 29,oF 40 (.bi .eql t38 t39) 29,oP 41 (.pick t29 t40 vF),oM 6 t41]) (.cn [6] .ret))))
def zau_s (k_:idtoken_check) (name text:BA):Option Bool :=
 (zba_s k_.c.value (0:Int) name).bind fun r1 =>
 gd ((decide ((0:Int)≤r1))=true→0≤r1∧r1<k_.c.value.length) <|
 gd ((decide ((0:Int)≤r1))=true→(Int.toNat r1)<k_.c.value.length) <|
 gd ((decide ((0:Int)≤r1))=true→(Int.toNat r1)<k_.c.value.length) <|
 gd (((decide ((0:Int)≤r1)) && (decide (((k_.c.value.getD (Int.toNat r1) (ET.dft .node)).kind)=(5:Int))))=true→0≤r1∧r1<k_.c.value.length) <|
 gd (((decide ((0:Int)≤r1)) && (decide (((k_.c.value.getD (Int.toNat r1) (ET.dft .node)).kind)=(5:Int))))=true→(Int.toNat r1)<k_.c.value.length) <|
 gd (((decide ((0:Int)≤r1)) && (decide (((k_.c.value.getD (Int.toNat r1) (ET.dft .node)).kind)=(5:Int))))=true→(Int.toNat r1)<k_.c.value.length) <|
 some (((decide ((0:Int)≤r1)) && (decide (((k_.c.value.getD (Int.toNat r1) (ET.dft .node)).kind)=(5:Int)))) && (decide (((k_.c.value.getD (Int.toNat r1) (ET.dft .node)).text)=text)))
def zau_c:CS:=mkC (qAa (dVC (dCO (dH 0 0))) (qAa (dVC (dCO dS)) (qAa (dVC (dCO dS)) dNil))) (qAa zDHC2 zDHC3) (fun x y=>zau_s (zYHC0 y) x.2.1 x.2.2.1) (fun x y r=>.c (.o (.vB r))) fun x y r=>(zYHC1 y)
theorem zau_val:qAf Tryz.prog 37 zau_c:=vl0 zau_q [.tmp 6] 42 8 3 [(23,zba_w)] ⟨zba_ok,tV⟩ fun x y=>by
 simp only [zau_s,-eq_self,sZ];kernel_rfl
def zau_w:CQ:=qBs [(0,some 0,some (.node,47)),(0,some 5,some (.str,9))] (qB4 [true,false,false] zau_c)
theorem zau_ok:qAe Tryz.prog 37 zau_w:=qAv zau_val
def zao_q:IQ:=(.seq (rg 3 [oP 3 (.mv vF)]) (.seq (rg 3 [oM 4 t0,oP 5 (.load none t1),oP 6 (.nk t5),oP 7 (.faddr 16 t6),oP 8 (.faddr 0 t7),oP 9 (.load none t8),oP 10 (.bi .neq t4 t9),oM 3 t10]) (.cn [3] .ret)))
def zao_s (s:BA) (c0:idtoken_check):Option Bool :=
 some (!decide (s=c0.w.client))
def zYHC2 (y:dTy (qAa (qBi 49 (qAa (dH 1 0) dNil)) (qAa (qBi 51 (qAa (dO 2) (qAa dS (qAa dB (qAa dS (qAa dB (qAa (dO 3) zDHC1))))))) zDHC3))):idtoken_check:=(⟨(⟨y.2.2.1,y.2.1.2.1,y.2.1.2.2.1,y.2.1.2.2.2.1,y.2.1.2.2.2.2.1,y.2.2.2.1,y.2.1.2.2.2.2.2.2.1,y.2.1.2.2.2.2.2.2.2.1,y.2.1.2.2.2.2.2.2.2.2.1,(⟨y.2.1.2.2.2.2.2.2.2.2.2.1,y.2.1.2.2.2.2.2.2.2.2.2.2.1⟩:qGk),(⟨y.2.1.2.2.2.2.2.2.2.2.2.2.2.1,y.2.1.2.2.2.2.2.2.2.2.2.2.2.2.1⟩:qGk),(⟨y.2.1.2.2.2.2.2.2.2.2.2.2.2.2.2.1,y.2.1.2.2.2.2.2.2.2.2.2.2.2.2.2.2.1⟩:qGk)⟩:qGj),y.2.1.2.2.2.2.2.2.2.2.2.2.2.2.2.2.2.1,(⟨y.2.1.2.2.2.2.2.2.2.2.2.2.2.2.2.2.2.2.1,y.2.1.2.2.2.2.2.2.2.2.2.2.2.2.2.2.2.2.2.1,y.2.1.2.2.2.2.2.2.2.2.2.2.2.2.2.2.2.2.2.2.1,y.2.1.2.2.2.2.2.2.2.2.2.2.2.2.2.2.2.2.2.2.2.1,y.2.1.2.2.2.2.2.2.2.2.2.2.2.2.2.2.2.2.2.2.2.2.1,y.2.1.2.2.2.2.2.2.2.2.2.2.2.2.2.2.2.2.2.2.2.2.2.1,y.2.1.2.2.2.2.2.2.2.2.2.2.2.2.2.2.2.2.2.2.2.2.2.2.1,y.2.1.2.2.2.2.2.2.2.2.2.2.2.2.2.2.2.2.2.2.2.2.2.2.2.1,y.2.1.2.2.2.2.2.2.2.2.2.2.2.2.2.2.2.2.2.2.2.2.2.2.2.2.1,y.2.1.2.2.2.2.2.2.2.2.2.2.2.2.2.2.2.2.2.2.2.2.2.2.2.2.2.1⟩:qHc),y.2.1.2.2.2.2.2.2.2.2.2.2.2.2.2.2.2.2.2.2.2.2.2.2.2.2.2.2.1⟩:idtoken_check)
def zYHC3 (y:dTy (qAa (qBi 49 (qAa (dH 1 0) dNil)) (qAa (qBi 51 (qAa (dO 2) (qAa dS (qAa dB (qAa dS (qAa dB (qAa (dO 3) zDHC1))))))) zDHC3))):List SB:=[.cells 49 [.hd 1 0],.cells 51 [.own 2,.vS y.2.1.2.1,.vB y.2.1.2.2.1,.vS y.2.1.2.2.2.1,.vB y.2.1.2.2.2.2.1,.own 3,.vB y.2.1.2.2.2.2.2.2.1,.vS y.2.1.2.2.2.2.2.2.2.1,.vB y.2.1.2.2.2.2.2.2.2.2.1,.vB y.2.1.2.2.2.2.2.2.2.2.2.1,.vI y.2.1.2.2.2.2.2.2.2.2.2.2.1,.vB y.2.1.2.2.2.2.2.2.2.2.2.2.2.1,.vI y.2.1.2.2.2.2.2.2.2.2.2.2.2.2.1,.vB y.2.1.2.2.2.2.2.2.2.2.2.2.2.2.2.1,.vI y.2.1.2.2.2.2.2.2.2.2.2.2.2.2.2.2.1,.vI y.2.1.2.2.2.2.2.2.2.2.2.2.2.2.2.2.2.1,.vS y.2.1.2.2.2.2.2.2.2.2.2.2.2.2.2.2.2.2.1,.vS y.2.1.2.2.2.2.2.2.2.2.2.2.2.2.2.2.2.2.2.1,.vB y.2.1.2.2.2.2.2.2.2.2.2.2.2.2.2.2.2.2.2.2.1,.vS y.2.1.2.2.2.2.2.2.2.2.2.2.2.2.2.2.2.2.2.2.2.1,.vB y.2.1.2.2.2.2.2.2.2.2.2.2.2.2.2.2.2.2.2.2.2.2.1,.vS y.2.1.2.2.2.2.2.2.2.2.2.2.2.2.2.2.2.2.2.2.2.2.2.1,.vB y.2.1.2.2.2.2.2.2.2.2.2.2.2.2.2.2.2.2.2.2.2.2.2.2.1,.vI y.2.1.2.2.2.2.2.2.2.2.2.2.2.2.2.2.2.2.2.2.2.2.2.2.2.1,.vB y.2.1.2.2.2.2.2.2.2.2.2.2.2.2.2.2.2.2.2.2.2.2.2.2.2.2.1,.vI y.2.1.2.2.2.2.2.2.2.2.2.2.2.2.2.2.2.2.2.2.2.2.2.2.2.2.2.1,.vI y.2.1.2.2.2.2.2.2.2.2.2.2.2.2.2.2.2.2.2.2.2.2.2.2.2.2.2.2.1],.view .node y.2.2.1,.view .str y.2.2.2.1]
def zao_c:CS:=mkC (qAa (dVC (dCO dS)) (qAa (dVC (dCO (dH 0 0))) dNil)) (qAa (qBi 49 (qAa (dH 1 0) dNil)) (qAa (qBi 51 (qAa (dO 2) (qAa dS (qAa dB (qAa dS (qAa dB (qAa (dO 3) zDHC1))))))) zDHC3)) (fun x y=>zao_s x.1 (zYHC2 y)) (fun x y r=>.c (.o (.vB r))) fun x y r=>(zYHC3 y)
theorem zao_val:qAf Tryz.prog 39 zao_c:=vl0 zao_q [.tmp 3] 11 4 4 [] trivial fun x y=>by
 simp only [zao_s,-eq_self,sZ];kernel_rfl
def zao_w:CQ:=qB4 [true,true,false,false] zao_c
theorem zao_ok:qAe Tryz.prog 39 zao_w:=qBw zao_val
def zcy_b0:IQ:=(.loop [0,1,7,8] (.seq (rg 9 [oP 9 (.bi .lss t8 t7)]) (.seq (.cond t9 .skip (.cn [] (.exit 0))) (.seq (.block 1 (.seq (rg 5 [oM 10 t8,oM 5 t10]) (.seq (rg 16 [oM 11 t1,oM 12 t0,oM 13 t5,oP 14 (.iaddr 1 t12 t13),oP 15 (.load none t14),oP 16 (.callV t11 [t15])]) (.cond t16 (.seq (rg 4 [oM 17 t5,oM 4 t17]) (.cn [4] .ret)) .skip)))) (rg 8 [oP 18 (.bi .add t8 (vI 1)),oM 8 t18])))))
def zcy_q:IQ:=(.seq (rg 4 [oP 4 (.mv (vI 0))]) (.seq (.seq (rg 8 [oM 6 t0,oP 7 (.len t6),oP 8 (.mv (vI 0))]) (.block 0 (.cn [0,1,7,8] (.sub 0 zcy_b0)))) (.seq (rg 4 [oP 4 (.mv (.v (.int .i64 (-1))))]) (.cn [4] .ret))))
def qFh (x7_ x8_:Int) (s:List BA) (qIw:BA) (qIe:Bool) (qIy:BA) (qIg qId:Bool) (qIx:BA) (qIf qH8:Bool) (qIc:Int) (qIa:Bool) (qIi:Int) (qH9:Bool) (qIh f_a:Int) (qIk qIp:BA) (qH6:Bool) (qIj:BA) (qH3:Bool) (qIt:BA) (qIb:Bool) (qIn:Int) (qIl:Bool) (qIm f_now:Int) (qIo:List Eng.Node) (qIv:List BA):Option (Int ⊕ (Int ⊕ Unit)) :=
 bif decide (x8_<x7_) then (
  gd (0≤x8_∧x8_<s.length) <|
  gd ((Int.toNat x8_)<s.length) <|
  (zao_s (s.getD (Int.toNat x8_) (ET.dft .str)) (⟨(⟨qIo,qIw,qIe,qIy,qIg,qIv,qId,qIx,qIf,(⟨qH8,qIc⟩:qGk),(⟨qIa,qIi⟩:qGk),(⟨qH9,qIh⟩:qGk)⟩:qGj),f_a,(⟨qIk,qIp,qH6,qIj,qH3,qIt,qIb,qIn,qIl,qIm⟩:qHc),f_now⟩:idtoken_check)).bind fun r2 =>
  bif r2 then (
   some (.inr (.inl x8_)))
  else (
   gd (qAc (x8_+(1:Int))) <|
   some (.inl (x8_+(1:Int)))))
 else (
  some (.inr (.inr ())))
def zcy_p0 (x7_ x8_:Int) (s:List BA) (qIw:BA) (qIe:Bool) (qIy:BA) (qIg qId:Bool) (qIx:BA) (qIf qH8:Bool) (qIc:Int) (qIa:Bool) (qIi:Int) (qH9:Bool) (qIh f_a:Int) (qIk qIp:BA) (qH6:Bool) (qIj:BA) (qH3:Bool) (qIt:BA) (qIb:Bool) (qIn:Int) (qIl:Bool) (qIm f_now:Int) (qIo:List Eng.Node) (qIv:List BA):Option (Int ⊕ Unit) :=
 qAt (fun x:Int=>qFh x7_ x s qIw qIe qIy qIg qId qIx qIf qH8 qIc qIa qIi qH9 qIh f_a qIk qIp qH6 qIj qH3 qIt qIb qIn qIl qIm f_now qIo qIv) x8_
def zcy_s (s:(List BA)) (f:idtoken_check):Option Int :=
 (zcy_p0 (s.length:Int) (0:Int) s f.c.iss f.c.hasIss f.c.sub f.c.hasSub f.c.hasAud f.c.jti f.c.hasJti f.c.exp_.has f.c.exp_.at_ f.c.nbf.has f.c.nbf.at_ f.c.iat.has f.c.iat.at_ f.a f.w.client f.w.nonce f.w.hasNonce f.w.access f.w.hasAccess f.w.code f.w.hasCode f.w.maxAge f.w.hasAge f.w.leeway f.now f.c.value f.c.aud).bind fun o3=>(Sum.elim (fun (o3_0:Int) =>
  some o3_0) (fun (o3_1:Unit) =>
  some (-1:Int))) o3
def zcy_G:Nat→Option CQ:=tblQ [(39,(toInl zao_w))]
def zDHC4:=(qAa (dClo 39 0 (qAa (dH 2 0) dNil)) (qAa (qBi 49 (qAa (dH 3 0) dNil)) (qAa (qBi 51 (qAa (dO 4) (qAa dS (qAa dB (qAa dS (qAa dB (qAa (dO 5) zDHC1))))))) zDHC3)))
def zcy_d0:=(dQS (qAa (dSO 0 (dO 0)) (qAa (dSO 1 (dO 1)) (qAa (dSO 7 dZ) (qAa (dSO 8 dZ) dNil)))) (qAa (qBa .str) zDHC4))
def zcy_l0:SubQ:=mkL zcy_d0 (fun x=>zcy_p0 x.1.2.2.1 x.1.2.2.2.1 x.2.1 x.2.2.2.2.1.2.1 x.2.2.2.2.1.2.2.1 x.2.2.2.2.1.2.2.2.1 x.2.2.2.2.1.2.2.2.2.1 x.2.2.2.2.1.2.2.2.2.2.2.1 x.2.2.2.2.1.2.2.2.2.2.2.2.1 x.2.2.2.2.1.2.2.2.2.2.2.2.2.1 x.2.2.2.2.1.2.2.2.2.2.2.2.2.2.1 x.2.2.2.2.1.2.2.2.2.2.2.2.2.2.2.1 x.2.2.2.2.1.2.2.2.2.2.2.2.2.2.2.2.1 x.2.2.2.2.1.2.2.2.2.2.2.2.2.2.2.2.2.1 x.2.2.2.2.1.2.2.2.2.2.2.2.2.2.2.2.2.2.1 x.2.2.2.2.1.2.2.2.2.2.2.2.2.2.2.2.2.2.2.1 x.2.2.2.2.1.2.2.2.2.2.2.2.2.2.2.2.2.2.2.2.1 x.2.2.2.2.1.2.2.2.2.2.2.2.2.2.2.2.2.2.2.2.2.1 x.2.2.2.2.1.2.2.2.2.2.2.2.2.2.2.2.2.2.2.2.2.2.1 x.2.2.2.2.1.2.2.2.2.2.2.2.2.2.2.2.2.2.2.2.2.2.2.1 x.2.2.2.2.1.2.2.2.2.2.2.2.2.2.2.2.2.2.2.2.2.2.2.2.1 x.2.2.2.2.1.2.2.2.2.2.2.2.2.2.2.2.2.2.2.2.2.2.2.2.2.1 x.2.2.2.2.1.2.2.2.2.2.2.2.2.2.2.2.2.2.2.2.2.2.2.2.2.2.1 x.2.2.2.2.1.2.2.2.2.2.2.2.2.2.2.2.2.2.2.2.2.2.2.2.2.2.2.1 x.2.2.2.2.1.2.2.2.2.2.2.2.2.2.2.2.2.2.2.2.2.2.2.2.2.2.2.2.1 x.2.2.2.2.1.2.2.2.2.2.2.2.2.2.2.2.2.2.2.2.2.2.2.2.2.2.2.2.2.1 x.2.2.2.2.1.2.2.2.2.2.2.2.2.2.2.2.2.2.2.2.2.2.2.2.2.2.2.2.2.2.1 x.2.2.2.2.1.2.2.2.2.2.2.2.2.2.2.2.2.2.2.2.2.2.2.2.2.2.2.2.2.2.2.1 x.2.2.2.2.2.1 x.2.2.2.2.2.2.1) fun x r R kn kx kr=>(Sum.elim (fun (r_0:Int)=>kr ⟨[sL 4 (.vI r_0)],[],[.view .str x.2.1,.clo 39 0 [.hd 2 0],.cells 49 [.hd 3 0],.cells 51 [.own 4,.vS x.2.2.2.2.1.2.1,.vB x.2.2.2.2.1.2.2.1,.vS x.2.2.2.2.1.2.2.2.1,.vB x.2.2.2.2.1.2.2.2.2.1,.own 5,.vB x.2.2.2.2.1.2.2.2.2.2.2.1,.vS x.2.2.2.2.1.2.2.2.2.2.2.2.1,.vB x.2.2.2.2.1.2.2.2.2.2.2.2.2.1,.vB x.2.2.2.2.1.2.2.2.2.2.2.2.2.2.1,.vI x.2.2.2.2.1.2.2.2.2.2.2.2.2.2.2.1,.vB x.2.2.2.2.1.2.2.2.2.2.2.2.2.2.2.2.1,.vI x.2.2.2.2.1.2.2.2.2.2.2.2.2.2.2.2.2.1,.vB x.2.2.2.2.1.2.2.2.2.2.2.2.2.2.2.2.2.2.1,.vI x.2.2.2.2.1.2.2.2.2.2.2.2.2.2.2.2.2.2.2.1,.vI x.2.2.2.2.1.2.2.2.2.2.2.2.2.2.2.2.2.2.2.2.1,.vS x.2.2.2.2.1.2.2.2.2.2.2.2.2.2.2.2.2.2.2.2.2.1,.vS x.2.2.2.2.1.2.2.2.2.2.2.2.2.2.2.2.2.2.2.2.2.2.1,.vB x.2.2.2.2.1.2.2.2.2.2.2.2.2.2.2.2.2.2.2.2.2.2.2.1,.vS x.2.2.2.2.1.2.2.2.2.2.2.2.2.2.2.2.2.2.2.2.2.2.2.2.1,.vB x.2.2.2.2.1.2.2.2.2.2.2.2.2.2.2.2.2.2.2.2.2.2.2.2.2.1,.vS x.2.2.2.2.1.2.2.2.2.2.2.2.2.2.2.2.2.2.2.2.2.2.2.2.2.2.1,.vB x.2.2.2.2.1.2.2.2.2.2.2.2.2.2.2.2.2.2.2.2.2.2.2.2.2.2.2.1,.vI x.2.2.2.2.1.2.2.2.2.2.2.2.2.2.2.2.2.2.2.2.2.2.2.2.2.2.2.2.1,.vB x.2.2.2.2.1.2.2.2.2.2.2.2.2.2.2.2.2.2.2.2.2.2.2.2.2.2.2.2.2.1,.vI x.2.2.2.2.1.2.2.2.2.2.2.2.2.2.2.2.2.2.2.2.2.2.2.2.2.2.2.2.2.2.1,.vI x.2.2.2.2.1.2.2.2.2.2.2.2.2.2.2.2.2.2.2.2.2.2.2.2.2.2.2.2.2.2.2.1],.view .node x.2.2.2.2.2.1,.view .str x.2.2.2.2.2.2.1]⟩) (fun (r_1:Unit)=>kx 0 ⟨[],[],[.view .str x.2.1,.clo 39 0 [.hd 2 0],.cells 49 [.hd 3 0],.cells 51 [.own 4,.vS x.2.2.2.2.1.2.1,.vB x.2.2.2.2.1.2.2.1,.vS x.2.2.2.2.1.2.2.2.1,.vB x.2.2.2.2.1.2.2.2.2.1,.own 5,.vB x.2.2.2.2.1.2.2.2.2.2.2.1,.vS x.2.2.2.2.1.2.2.2.2.2.2.2.1,.vB x.2.2.2.2.1.2.2.2.2.2.2.2.2.1,.vB x.2.2.2.2.1.2.2.2.2.2.2.2.2.2.1,.vI x.2.2.2.2.1.2.2.2.2.2.2.2.2.2.2.1,.vB x.2.2.2.2.1.2.2.2.2.2.2.2.2.2.2.2.1,.vI x.2.2.2.2.1.2.2.2.2.2.2.2.2.2.2.2.2.1,.vB x.2.2.2.2.1.2.2.2.2.2.2.2.2.2.2.2.2.2.1,.vI x.2.2.2.2.1.2.2.2.2.2.2.2.2.2.2.2.2.2.2.1,.vI x.2.2.2.2.1.2.2.2.2.2.2.2.2.2.2.2.2.2.2.2.1,.vS x.2.2.2.2.1.2.2.2.2.2.2.2.2.2.2.2.2.2.2.2.2.1,.vS x.2.2.2.2.1.2.2.2.2.2.2.2.2.2.2.2.2.2.2.2.2.2.1,.vB x.2.2.2.2.1.2.2.2.2.2.2.2.2.2.2.2.2.2.2.2.2.2.2.1,.vS x.2.2.2.2.1.2.2.2.2.2.2.2.2.2.2.2.2.2.2.2.2.2.2.2.1,.vB x.2.2.2.2.1.2.2.2.2.2.2.2.2.2.2.2.2.2.2.2.2.2.2.2.2.1,.vS x.2.2.2.2.1.2.2.2.2.2.2.2.2.2.2.2.2.2.2.2.2.2.2.2.2.2.1,.vB x.2.2.2.2.1.2.2.2.2.2.2.2.2.2.2.2.2.2.2.2.2.2.2.2.2.2.2.1,.vI x.2.2.2.2.1.2.2.2.2.2.2.2.2.2.2.2.2.2.2.2.2.2.2.2.2.2.2.2.1,.vB x.2.2.2.2.1.2.2.2.2.2.2.2.2.2.2.2.2.2.2.2.2.2.2.2.2.2.2.2.2.1,.vI x.2.2.2.2.1.2.2.2.2.2.2.2.2.2.2.2.2.2.2.2.2.2.2.2.2.2.2.2.2.2.1,.vI x.2.2.2.2.1.2.2.2.2.2.2.2.2.2.2.2.2.2.2.2.2.2.2.2.2.2.2.2.2.2.2.1],.view .node x.2.2.2.2.2.1,.view .str x.2.2.2.2.2.2.1]⟩)) r
def zcy_L:Nat→SubQ:=tblL [(0,zcy_l0)]
theorem zcy_sub0:qA0 zcy_L zcy_G 6 9 19 0 zcy_b0:=qAh (show zcy_L 0=zcy_l0 from by kernel_rfl) fun x R kn kx kr=>qAg (step:=fun y=>qFh x.1.2.2.1 y x.2.1 x.2.2.2.2.1.2.1 x.2.2.2.2.1.2.2.1 x.2.2.2.2.1.2.2.2.1 x.2.2.2.2.1.2.2.2.2.1 x.2.2.2.2.1.2.2.2.2.2.2.1 x.2.2.2.2.1.2.2.2.2.2.2.2.1 x.2.2.2.2.1.2.2.2.2.2.2.2.2.1 x.2.2.2.2.1.2.2.2.2.2.2.2.2.2.1 x.2.2.2.2.1.2.2.2.2.2.2.2.2.2.2.1 x.2.2.2.2.1.2.2.2.2.2.2.2.2.2.2.2.1 x.2.2.2.2.1.2.2.2.2.2.2.2.2.2.2.2.2.1 x.2.2.2.2.1.2.2.2.2.2.2.2.2.2.2.2.2.2.1 x.2.2.2.2.1.2.2.2.2.2.2.2.2.2.2.2.2.2.2.1 x.2.2.2.2.1.2.2.2.2.2.2.2.2.2.2.2.2.2.2.2.1 x.2.2.2.2.1.2.2.2.2.2.2.2.2.2.2.2.2.2.2.2.2.1 x.2.2.2.2.1.2.2.2.2.2.2.2.2.2.2.2.2.2.2.2.2.2.1 x.2.2.2.2.1.2.2.2.2.2.2.2.2.2.2.2.2.2.2.2.2.2.2.1 x.2.2.2.2.1.2.2.2.2.2.2.2.2.2.2.2.2.2.2.2.2.2.2.2.1 x.2.2.2.2.1.2.2.2.2.2.2.2.2.2.2.2.2.2.2.2.2.2.2.2.2.1 x.2.2.2.2.1.2.2.2.2.2.2.2.2.2.2.2.2.2.2.2.2.2.2.2.2.2.1 x.2.2.2.2.1.2.2.2.2.2.2.2.2.2.2.2.2.2.2.2.2.2.2.2.2.2.2.1 x.2.2.2.2.1.2.2.2.2.2.2.2.2.2.2.2.2.2.2.2.2.2.2.2.2.2.2.2.1 x.2.2.2.2.1.2.2.2.2.2.2.2.2.2.2.2.2.2.2.2.2.2.2.2.2.2.2.2.2.1 x.2.2.2.2.1.2.2.2.2.2.2.2.2.2.2.2.2.2.2.2.2.2.2.2.2.2.2.2.2.2.1 x.2.2.2.2.1.2.2.2.2.2.2.2.2.2.2.2.2.2.2.2.2.2.2.2.2.2.2.2.2.2.2.1 x.2.2.2.2.2.1 x.2.2.2.2.2.2.1) (enc:=fun (y:Int)=>zcy_d0.e ((x.1.1,x.1.2.1,x.1.2.2.1,y,x.1.2.2.2.2),x.2)) (fun y=>by kernel_rfl) (fun y ki=>by simp only [qFh,-eq_self,sZ]; kernel_rfl) x.1.2.2.2.1
def zYHC4 (y:dTy (qAa (qBa .str) zDHC4)):idtoken_check:=(⟨(⟨y.2.2.2.2.1,y.2.2.2.1.2.1,y.2.2.2.1.2.2.1,y.2.2.2.1.2.2.2.1,y.2.2.2.1.2.2.2.2.1,y.2.2.2.2.2.1,y.2.2.2.1.2.2.2.2.2.2.1,y.2.2.2.1.2.2.2.2.2.2.2.1,y.2.2.2.1.2.2.2.2.2.2.2.2.1,(⟨y.2.2.2.1.2.2.2.2.2.2.2.2.2.1,y.2.2.2.1.2.2.2.2.2.2.2.2.2.2.1⟩:qGk),(⟨y.2.2.2.1.2.2.2.2.2.2.2.2.2.2.2.1,y.2.2.2.1.2.2.2.2.2.2.2.2.2.2.2.2.1⟩:qGk),(⟨y.2.2.2.1.2.2.2.2.2.2.2.2.2.2.2.2.2.1,y.2.2.2.1.2.2.2.2.2.2.2.2.2.2.2.2.2.2.1⟩:qGk)⟩:qGj),y.2.2.2.1.2.2.2.2.2.2.2.2.2.2.2.2.2.2.2.1,(⟨y.2.2.2.1.2.2.2.2.2.2.2.2.2.2.2.2.2.2.2.2.1,y.2.2.2.1.2.2.2.2.2.2.2.2.2.2.2.2.2.2.2.2.2.1,y.2.2.2.1.2.2.2.2.2.2.2.2.2.2.2.2.2.2.2.2.2.2.1,y.2.2.2.1.2.2.2.2.2.2.2.2.2.2.2.2.2.2.2.2.2.2.2.1,y.2.2.2.1.2.2.2.2.2.2.2.2.2.2.2.2.2.2.2.2.2.2.2.2.1,y.2.2.2.1.2.2.2.2.2.2.2.2.2.2.2.2.2.2.2.2.2.2.2.2.2.1,y.2.2.2.1.2.2.2.2.2.2.2.2.2.2.2.2.2.2.2.2.2.2.2.2.2.2.1,y.2.2.2.1.2.2.2.2.2.2.2.2.2.2.2.2.2.2.2.2.2.2.2.2.2.2.2.1,y.2.2.2.1.2.2.2.2.2.2.2.2.2.2.2.2.2.2.2.2.2.2.2.2.2.2.2.2.1,y.2.2.2.1.2.2.2.2.2.2.2.2.2.2.2.2.2.2.2.2.2.2.2.2.2.2.2.2.2.1⟩:qHc),y.2.2.2.1.2.2.2.2.2.2.2.2.2.2.2.2.2.2.2.2.2.2.2.2.2.2.2.2.2.2.1⟩:idtoken_check)
def zYHC5 (y:dTy (qAa (qBa .str) zDHC4)):List SB:=[.view .str y.1,.clo 39 0 [.hd 2 0],.cells 49 [.hd 3 0],.cells 51 [.own 4,.vS y.2.2.2.1.2.1,.vB y.2.2.2.1.2.2.1,.vS y.2.2.2.1.2.2.2.1,.vB y.2.2.2.1.2.2.2.2.1,.own 5,.vB y.2.2.2.1.2.2.2.2.2.2.1,.vS y.2.2.2.1.2.2.2.2.2.2.2.1,.vB y.2.2.2.1.2.2.2.2.2.2.2.2.1,.vB y.2.2.2.1.2.2.2.2.2.2.2.2.2.1,.vI y.2.2.2.1.2.2.2.2.2.2.2.2.2.2.1,.vB y.2.2.2.1.2.2.2.2.2.2.2.2.2.2.2.1,.vI y.2.2.2.1.2.2.2.2.2.2.2.2.2.2.2.2.1,.vB y.2.2.2.1.2.2.2.2.2.2.2.2.2.2.2.2.2.1,.vI y.2.2.2.1.2.2.2.2.2.2.2.2.2.2.2.2.2.2.1,.vI y.2.2.2.1.2.2.2.2.2.2.2.2.2.2.2.2.2.2.2.1,.vS y.2.2.2.1.2.2.2.2.2.2.2.2.2.2.2.2.2.2.2.2.1,.vS y.2.2.2.1.2.2.2.2.2.2.2.2.2.2.2.2.2.2.2.2.2.1,.vB y.2.2.2.1.2.2.2.2.2.2.2.2.2.2.2.2.2.2.2.2.2.2.1,.vS y.2.2.2.1.2.2.2.2.2.2.2.2.2.2.2.2.2.2.2.2.2.2.2.1,.vB y.2.2.2.1.2.2.2.2.2.2.2.2.2.2.2.2.2.2.2.2.2.2.2.2.1,.vS y.2.2.2.1.2.2.2.2.2.2.2.2.2.2.2.2.2.2.2.2.2.2.2.2.2.1,.vB y.2.2.2.1.2.2.2.2.2.2.2.2.2.2.2.2.2.2.2.2.2.2.2.2.2.2.1,.vI y.2.2.2.1.2.2.2.2.2.2.2.2.2.2.2.2.2.2.2.2.2.2.2.2.2.2.2.1,.vB y.2.2.2.1.2.2.2.2.2.2.2.2.2.2.2.2.2.2.2.2.2.2.2.2.2.2.2.2.1,.vI y.2.2.2.1.2.2.2.2.2.2.2.2.2.2.2.2.2.2.2.2.2.2.2.2.2.2.2.2.2.1,.vI y.2.2.2.1.2.2.2.2.2.2.2.2.2.2.2.2.2.2.2.2.2.2.2.2.2.2.2.2.2.2.1],.view .node y.2.2.2.2.1,.view .str y.2.2.2.2.2.1]
def zcy_c:CS:=mkC (qAa (dVC (dCO (dO 0))) (qAa (dVC (dCO (dO 1))) dNil)) (qAa (qBa .str) zDHC4) (fun x y=>zcy_s y.1 (zYHC4 y)) (fun x y r=>.c (.o (.vI r))) fun x y r=>(zYHC5 y)
theorem zcy_val:qAf Tryz.prog 53 zcy_c:=vl1 zcy_q [.tmp 4] 19 9 6 (show qA3 zcy_L zcy_G 6 9 19 [(0,zcy_b0)] from ⟨zcy_sub0,tV⟩) (qAq ⟨(qCf (by kernel_rfl) zao_ok),tV⟩) fun x y=>by
 simp only [zcy_s,-eq_self,sZ];kernel_rfl
def zcy_w:CQ:=nestQ (qBs [(0,none,some (.str,9))] (qB4 [false,false,true,true,false,false] zcy_c))
theorem zcy_ok:qAe Tryz.prog 53 zcy_w:=(fun h=>nestQ_valid (prep_nat (liftG_nat h.1)) (qAv h)) zcy_val
def zcw_q:IQ:=(.seq (rg 4 [oP 4 (.mv vF)]) (.seq (rg 4 [oM 5 t0,oM 6 t1,oP 7 (.call 53 [t5,t6]),oP 8 (.bi .geq t7 (vI 0)),oM 4 t8]) (.cn [4] .ret)))
def zcw_s (s:(List BA)) (f:idtoken_check):Option Bool :=
 (zcy_s s f).bind fun r1 =>
 some (decide ((0:Int)≤r1))
def zcw_c:CS:=mkC (qAa (dVC (dCO (dO 0))) (qAa (dVC (dCO (dO 1))) dNil)) (qAa (qBa .str) zDHC4) (fun x y=>zcw_s y.1 (zYHC4 y)) (fun x y r=>.c (.o (.vB r))) fun x y r=>(zYHC5 y)
theorem zcw_val:qAf Tryz.prog 38 zcw_c:=vl0 zcw_q [.tmp 4] 9 5 6 [(53,zcy_w)] ⟨zcy_ok,tV⟩ fun x y=>by
 simp only [zcw_s,-eq_self,sZ];kernel_rfl
def zcw_w:CQ:=nestQ (qBs [(0,none,some (.str,9))] (qB4 [false,false,true,true,false,false] zcw_c))
theorem zcw_ok:qAe Tryz.prog 38 zcw_w:=(fun h=>nestQ_valid (prep_nat (liftG_nat h.1)) (qAv h)) zcw_val
def zan_q:IQ:=(.seq (rg 2 [oP 1 (.box 49 1 t0),oP 2 (.mv vF)]) (.seq (.seq (rg 9 [oP 3 (.load none t1),oP 4 (.nk t3),oP 5 (.faddr 0 t4),oP 6 (.faddr 0 t5),oP 7 (.load none t6),oP 8 (.call 23 [t7,(vI 0),(.v (.string ⟨#[97,122,112]⟩))]),oP 9 (.bi .geq t8 (vI 0))]) (.cond t9 (.seq (.reg 2 (some [0,1,2,3,4,5,6,7,8]) [oP 10 (.load none t1),oP 11 (.load none t1),oP 12 (.nk t11),oP 13 (.faddr 16 t12),oP 14 (.faddr 0 t13),oP 15 (.load none t14),oP 16 (.call 37 [t10,(.v (.string ⟨#[97,122,112]⟩)),t15]),oP 17 (.un .not t16),oM 2 t17]) (.cn [2] .ret)) .skip)) (.seq (rg 2 [oP 18 (.load none t1),oP 19 (.nk t18),oP 20 (.faddr 0 t19),oP 21 (.faddr 5 t20),oP 22 (.load none t21),oP 23 (.ext (.mkfn 39 0) [t1]),oP 24 (.call 38 [t22,t23]),oM 2 t24]) (.cn [2] .ret))))
def zGHC6 (k_:idtoken_check):List SB:=[.cells 51 [.own 1,.vS k_.c.iss,.vB k_.c.hasIss,.vS k_.c.sub,.vB k_.c.hasSub,.own 2,.vB k_.c.hasAud,.vS k_.c.jti,.vB k_.c.hasJti,.vB k_.c.exp_.has,.vI k_.c.exp_.at_,.vB k_.c.nbf.has,.vI k_.c.nbf.at_,.vB k_.c.iat.has,.vI k_.c.iat.at_,.vI k_.a,.vS k_.w.client,.vS k_.w.nonce,.vB k_.w.hasNonce,.vS k_.w.access,.vB k_.w.hasAccess,.vS k_.w.code,.vB k_.w.hasCode,.vI k_.w.maxAge,.vB k_.w.hasAge,.vI k_.w.leeway,.vI k_.now],.view .node k_.c.value,.view .str k_.c.aud,.cells 49 [.hd 0 0]]
def zan_s (k_:idtoken_check):Option Bool :=
 (zba_s k_.c.value (0:Int) (⟨#[97,122,112]⟩:BA)).bind fun r1 =>
 bif decide ((0:Int)≤r1) then (
  (zau_s k_ (⟨#[97,122,112]⟩:BA) k_.w.client).bind fun r2 =>
  gd (zGHC6 k_=zGHC6 k_) <|
  some (!r2))
 else (
  (zcw_s k_.c.aud k_).bind fun r3 =>
  some r3)
def zan_c:CS:=mkC (qAa (dVC (dCO (dH 0 0))) dNil) (qAa zDHC2 zDHC3) (fun x y=>zan_s (zYHC0 y)) (fun x y r=>.c (.o (.vB r))) fun x y r=>(zYHC1 y)
theorem zan_val:qAf Tryz.prog 18 zan_c:=vl0 zan_q [.tmp 2] 25 3 3 [(23,zba_w),(37,zau_w),(38,zcw_w)] ⟨zba_ok,zau_ok,zcw_ok,tV⟩ fun x y=>by
 simp only [zan_s,-eq_self,sZ];kernel_rfl
def zan_w:CQ:=qBs [(0,some 0,some (.node,47)),(0,some 5,some (.str,9))] (qB4 [true,false,false] zan_c)
theorem zan_ok:qAe Tryz.prog 18 zan_w:=qAv zan_val
def zas_q:IQ:=(.seq (rg 2 [oP 2 (.mv vF)]) (.seq (rg 2 [oM 3 t0,oP 4 (.nk t3),oP 5 (.faddr 16 t4),oP 6 (.faddr 2 t5),oP 7 (.load none t6),oM 8 t7,oF 9 (.mv t0) 8,oF 10 (.mv t0) 8,oF 11 (.nk t10) 8,oF 12 (.faddr 16 t11) 8,oF 13 (.faddr 1 t12) 8,oF 14 (.load none t13) 8,oF 15 (.call 37 [t9,(.v (.string ⟨#[110,111,110,99,101]⟩)),t14]) 8,oF 16 (.un .not t15) 8,oP 17 (.pick t8 t16 vF),oM 2 t17]) (.cn [2] .ret)))
def zas_s (k_:idtoken_check):Option Bool :=
 bif k_.w.hasNonce then (
  (zau_s k_ (⟨#[110,111,110,99,101]⟩:BA) k_.w.nonce).bind fun r1 =>
  some (!r1))
 else (
  some false)
def zas_c:CS:=mkC (qAa (dVC (dCO (dH 0 0))) dNil) (qAa zDHC2 zDHC3) (fun x y=>zas_s (zYHC0 y)) (fun x y r=>.c (.o (.vB r))) fun x y r=>(zYHC1 y)
theorem zas_val:qAf Tryz.prog 19 zas_c:=vl0 zas_q [.tmp 2] 18 3 3 [(37,zau_w)] ⟨zau_ok,tV⟩ fun x y=>by
 simp only [zas_s,-eq_self,sZ];kernel_rfl
def zas_w:CQ:=qBs [(0,some 0,some (.node,47)),(0,some 5,some (.str,9))] (qB4 [true,false,false] zas_c)
theorem zas_ok:qAe Tryz.prog 19 zas_w:=qAv zas_val
def zaq_q:IQ:=(.seq (rg 3 [oP 3 (.mv (.v (.string ⟨#[]⟩)))]) (.seq (rg 5 ([oP 7 (.load none t1)]++rG 8 t7 15++[oM 11 t0,oP 12 (.call 12 [t10,t11]),oM 6 t12,oP 13 (.extract t6 0),oP 14 (.extract t6 1),oM 4 t13,oM 5 t14])) (.seq (rg 3 [oM 15 t4,oM 3 t15]) (.cn [3] .ret))))
def zaq_s (text:BA) (c0:idtoken_check):Option BA :=
 (zaj_s c0.a text).bind fun r1 =>
 some r1.1
def zaq_c:CS:=mkC (qAa (dVC (dCO dS)) (qAa (dVC (dCO (dH 0 0))) dNil)) (qAa (qBi 49 (qAa (dH 1 0) dNil)) (qAa (qBi 51 (qAa (dO 2) (qAa dS (qAa dB (qAa dS (qAa dB (qAa (dO 3) zDHC1))))))) zDHC3)) (fun x y=>zaq_s x.1 (zYHC2 y)) (fun x y r=>.c (.o (.vS r))) fun x y r=>(zYHC3 y)
theorem zaq_val:qAf Tryz.prog 40 zaq_c:=vl0 zaq_q [.tmp 3] 16 6 4 [(12,zaj_w)] ⟨zaj_ok,tV⟩ fun x y=>by
 simp only [zaq_s,-eq_self,sZ];kernel_rfl
def zaq_w:CQ:=qB4 [true,true,false,false] zaq_c
theorem zaq_ok:qAe Tryz.prog 40 zaq_w:=qBw zaq_val
def zap_q:IQ :=
 (.seq
 (.reg 2 none [
  ⟨(some 1),.box 49 1 (.t 0),none⟩,
  ⟨(some 2),.mv (.v (.bool false)),none⟩])
 (.seq
 (.reg 3 none [
  ⟨(some 4),.ext (.mkfn 40 0) [(.t 1)],none⟩,
  ⟨(some 3),.mv (.t 4),none⟩])
 (.seq
 (.reg 2 (some [0,1,2,3,4,5,6,7,8,9,10,11,12,13,14,15,16,17,18,19,20,21,22,23,24,25,26,27,28,29,30,31,32,33,34,35,36]) [
  ⟨(some 5),.load none (.t 1),none⟩,
  ⟨(some 6),.ext .nilck [(.t 5)],none⟩,
  ⟨(some 7),.faddr 16 (.t 6),none⟩,
  ⟨(some 8),.faddr 4 (.t 7),none⟩,
  ⟨(some 9),.load none (.t 8),none⟩,
  ⟨(some 10),.mv (.t 9),none⟩,
  ⟨(some 11),.load none (.t 1),some (10,true)⟩,
  ⟨(some 12),.mv (.t 3),some (10,true)⟩,
  ⟨(some 13),.load none (.t 1),some (10,true)⟩,
  ⟨(some 14),.ext .nilck [(.t 13)],some (10,true)⟩,
  ⟨(some 15),.faddr 16 (.t 14),some (10,true)⟩,
  ⟨(some 16),.faddr 3 (.t 15),some (10,true)⟩,
  ⟨(some 17),.load none (.t 16),some (10,true)⟩,
  ⟨(some 18),.callW (bodyL Tryz.prog) (.t 12) [(.t 17)],some (10,true)⟩,
  ⟨(some 19),.call 37 [(.t 11),(.v (.string ⟨#[97,116,95,104,97,115,104]⟩)),(.t 18)],some (10,true)⟩,
  ⟨(some 20),.un .not (.t 19),some (10,true)⟩,
  ⟨(some 21),.pick (.t 10) (.t 20) (.v (.bool false)),none⟩,
  ⟨(some 22),.mv (.t 21),none⟩,
  ⟨(some 23),.load none (.t 1),some (22,false)⟩,
  ⟨(some 24),.ext .nilck [(.t 23)],some (22,false)⟩,
  ⟨(some 25),.faddr 16 (.t 24),some (22,false)⟩,
  ⟨(some 26),.faddr 6 (.t 25),some (22,false)⟩,
  ⟨(some 27),.load none (.t 26),some (22,false)⟩,
  ⟨(some 28),.mv (.t 27),some (22,false)⟩,
  ⟨(some 29),.load none (.t 1),some (28,true)⟩,
  ⟨(some 30),.mv (.t 3),some (28,true)⟩,
  ⟨(some 31),.load none (.t 1),some (28,true)⟩,
  ⟨(some 32),.ext .nilck [(.t 31)],some (28,true)⟩,
  ⟨(some 33),.faddr 16 (.t 32),some (28,true)⟩,
  ⟨(some 34),.faddr 5 (.t 33),some (28,true)⟩,
  ⟨(some 35),.load none (.t 34),some (28,true)⟩,
  ⟨(some 36),.callW (bodyL Tryz.prog) (.t 30) [(.t 35)],some (28,true)⟩,
  ⟨(some 37),.call 37 [(.t 29),(.v (.string ⟨#[99,95,104,97,115,104]⟩)),(.t 36)],some (28,true)⟩,
  ⟨(some 38),.un .not (.t 37),some (28,true)⟩,
  ⟨(some 39),.pick (.t 28) (.t 38) (.v (.bool false)),some (22,false)⟩,
  ⟨(some 40),.pick (.t 22) (.v (.bool true)) (.t 39),none⟩,
  ⟨(some 2),.mv (.t 40),none⟩])
 (.canon [] [2] .ret))))
def zGHC7 (k_:idtoken_check):List SB:=[.cells 51 [.own 1,.vS k_.c.iss,.vB k_.c.hasIss,.vS k_.c.sub,.vB k_.c.hasSub,.own 2,.vB k_.c.hasAud,.vS k_.c.jti,.vB k_.c.hasJti,.vB k_.c.exp_.has,.vI k_.c.exp_.at_,.vB k_.c.nbf.has,.vI k_.c.nbf.at_,.vB k_.c.iat.has,.vI k_.c.iat.at_,.vI k_.a,.vS k_.w.client,.vS k_.w.nonce,.vB k_.w.hasNonce,.vS k_.w.access,.vB k_.w.hasAccess,.vS k_.w.code,.vB k_.w.hasCode,.vI k_.w.maxAge,.vB k_.w.hasAge,.vI k_.w.leeway,.vI k_.now],.view .node k_.c.value,.view .str k_.c.aud,.cells 49 [.hd 0 0],.clo 40 0 [.hd 3 0]]
def zap_s (k_:idtoken_check):Option Bool :=
 bif k_.w.hasAccess then (
  (zaq_s k_.w.access k_).bind fun r1 =>
  gd (zGHC7 k_=zGHC7 k_) <|
  (zau_s k_ (⟨#[97,116,95,104,97,115,104]⟩:BA) r1).bind fun r2 =>
  gd (zGHC7 k_=zGHC7 k_) <|
  bif (k_.w.hasCode && (!(k_.w.hasAccess && (!r2)))) then (
   (zaq_s k_.w.code k_).bind fun r3 =>
   gd (zGHC7 k_=zGHC7 k_) <|
   (zau_s k_ (⟨#[99,95,104,97,115,104]⟩:BA) r3).bind fun r4 =>
   gd (zGHC7 k_=zGHC7 k_) <|
   some ((k_.w.hasAccess && (!r2)) || (k_.w.hasCode && (!r4))))
  else (
   some ((k_.w.hasAccess && (!r2)) || (k_.w.hasCode && false))))
 else (
  bif (k_.w.hasCode && (!(k_.w.hasAccess && false))) then (
   (zaq_s k_.w.code k_).bind fun r5 =>
   gd (zGHC7 k_=zGHC7 k_) <|
   (zau_s k_ (⟨#[99,95,104,97,115,104]⟩:BA) r5).bind fun r6 =>
   gd (zGHC7 k_=zGHC7 k_) <|
   some ((k_.w.hasAccess && false) || (k_.w.hasCode && (!r6))))
  else (
   some ((k_.w.hasAccess && false) || (k_.w.hasCode && false))))
def zap_c:CS:=mkC (qAa (dVC (dCO (dH 0 0))) dNil) (qAa zDHC2 zDHC3) (fun x y=>zap_s (zYHC0 y)) (fun x y r=>.c (.o (.vB r))) fun x y r=>(zYHC1 y)
theorem zap_val:qAf Tryz.prog 20 zap_c:=vl0 zap_q [.tmp 2] 41 4 3 [(40,zaq_w),(37,zau_w)] ⟨zaq_ok,zau_ok,tV⟩ (raws:=[18,36]) fun x y=>by
 simp only [zap_s,-eq_self,sZ];kernel_rfl
def zap_w:CQ:=qBs [(0,some 0,some (.node,47)),(0,some 5,some (.str,9))] (qB4 [true,false,false] zap_c)
theorem zap_ok:qAe Tryz.prog 20 zap_w:=qAv zap_val
def zak_q:IQ:=(.seq (rg 2 [oP 2 (.mv vF)]) (.seq (.seq (rg 11 [oM 6 t0,oP 7 (.nk t6),oP 8 (.faddr 16 t7),oP 9 (.faddr 8 t8),oP 10 (.load none t9),oP 11 (.un .not t10)]) (.cond t11 (.seq (rg 2 [oP 2 (.mv vF)]) (.cn [2] .ret)) .skip)) (.seq (rg 3 [oM 12 t0,oP 13 (.nk t12),oP 14 (.faddr 0 t13),oP 15 (.faddr 0 t14),oP 16 (.load none t15),oP 17 (.call 23 [t16,(vI 0),(.v (.string ⟨#[97,117,116,104,95,116,105,109,101]⟩))]),oM 3 t17]) (.seq (.seq (rg 43 [oM 18 t3,oP 19 (.bi .lss t18 (vI 0)),oM 20 t19,oE 21 (.mv t0) 20,oE 22 (.nk t21) 20,oE 23 (.faddr 0 t22) 20,oE 24 (.faddr 0 t23) 20,oE 25 (.load none t24) 20,oE 26 (.mv t3) 20,oE 27 (.iaddr 6 t25 t26) 20,oE 28 (.faddr 0 t27) 20,oE 29 (.load none t28) 20,oE 30 (.bi .neq t29 (vI 4)) 20,oP 31 (.pick t20 vT t30),oM 32 t31,oE 33 (.mv t0) 32,oE 34 (.nk t33) 32,oE 35 (.faddr 0 t34) 32,oE 36 (.faddr 0 t35) 32,oE 37 (.load none t36) 32,oE 38 (.mv t3) 32,oE 39 (.iaddr 6 t37 t38) 32,oE 40 (.faddr 3 t39) 32,oE 41 (.load none t40) 32,oE 42 (.un .not t41) 32,oP 43 (.pick t32 vT t42)]) (.cond t43 (.seq (rg 2 [oP 2 (.mv vT)]) (.cn [2] .ret)) .skip)) (.seq (.reg 5 (some [0,1,2,3,4,5,6,7,8,9,10,11,12,13,14,15,16,17,18,19,20,21]) [oM 44 t0,oP 45 (.nk t44),oP 46 (.faddr 0 t45),oP 47 (.faddr 0 t46),oP 48 (.load none t47),oM 49 t3,oP 50 (.iaddr 6 t48 t49),oP 51 (.faddr 4 t50),oP 52 (.load none t51),oM 53 t0,oP 54 (.nk t53),oP 55 (.faddr 16 t54),oP 56 (.faddr 7 t55),oP 57 (.load none t56),oM 58 t0,oP 59 (.nk t58),oP 60 (.faddr 16 t59),oP 61 (.faddr 9 t60),oP 62 (.load none t61),oP 63 (.bi .add t57 t62),oM 4 t52,oM 5 t63]) (.seq (rg 2 ([oM 64 t4,oM 65 t5,oP 66 (.bi .sub (vI 9223372036854775807) t65),oP 67 (.bi .leq t64 t66),oM 68 t67]++rH oF 69 t0 26 68++[oF 73 (.mv t4) 68,oF 74 (.mv t5) 68,oF 75 (.bi .add t73 t74) 68,oF 76 (.bi .gtr t72 t75) 68,oP 77 (.pick t68 t76 vF),oM 2 t77])) (.cn [2] .ret)))))))
def zak_s (k_:idtoken_check):Option Bool :=
 bif (!k_.w.hasAge) then (
  some false)
 else (
  (zba_s k_.c.value (0:Int) (⟨#[97,117,116,104,95,116,105,109,101]⟩:BA)).bind fun r1 =>
  gd ((decide (r1<(0:Int)))=false→0≤r1∧r1<k_.c.value.length) <|
  gd ((decide (r1<(0:Int)))=false→(Int.toNat r1)<k_.c.value.length) <|
  gd ((decide (r1<(0:Int)))=false→(Int.toNat r1)<k_.c.value.length) <|
  gd (((decide (r1<(0:Int))) || (!decide (((k_.c.value.getD (Int.toNat r1) (ET.dft .node)).kind)=(4:Int))))=false→0≤r1∧r1<k_.c.value.length) <|
  gd (((decide (r1<(0:Int))) || (!decide (((k_.c.value.getD (Int.toNat r1) (ET.dft .node)).kind)=(4:Int))))=false→(Int.toNat r1)<k_.c.value.length) <|
  gd (((decide (r1<(0:Int))) || (!decide (((k_.c.value.getD (Int.toNat r1) (ET.dft .node)).kind)=(4:Int))))=false→(Int.toNat r1)<k_.c.value.length) <|
  bif (((decide (r1<(0:Int))) || (!decide (((k_.c.value.getD (Int.toNat r1) (ET.dft .node)).kind)=(4:Int)))) || (!((k_.c.value.getD (Int.toNat r1) (ET.dft .node)).whole))) then (
   some true)
  else (
   gd (0≤r1∧r1<k_.c.value.length) <|
   gd ((Int.toNat r1)<k_.c.value.length) <|
   gd ((Int.toNat r1)<k_.c.value.length) <|
   gd (qAc (k_.w.maxAge+k_.w.leeway)) <|
   gd (qAc ((9223372036854775807:Int) - (k_.w.maxAge+k_.w.leeway))) <|
   gd ((decide (((k_.c.value.getD (Int.toNat r1) (ET.dft .node)).int)≤((9223372036854775807:Int) - (k_.w.maxAge+k_.w.leeway))))=true→qAc (((k_.c.value.getD (Int.toNat r1) (ET.dft .node)).int)+(k_.w.maxAge+k_.w.leeway))) <|
   some ((decide (((k_.c.value.getD (Int.toNat r1) (ET.dft .node)).int)≤((9223372036854775807:Int) - (k_.w.maxAge+k_.w.leeway)))) && (decide ((((k_.c.value.getD (Int.toNat r1) (ET.dft .node)).int)+(k_.w.maxAge+k_.w.leeway))<k_.now)))))
def zak_c:CS:=mkC (qAa (dVC (dCO (dH 0 0))) dNil) (qAa zDHC2 zDHC3) (fun x y=>zak_s (zYHC0 y)) (fun x y r=>.c (.o (.vB r))) fun x y r=>(zYHC1 y)
theorem zak_val:qAf Tryz.prog 21 zak_c:=vl0 zak_q [.tmp 2] 78 6 3 [(23,zba_w)] ⟨zba_ok,tV⟩ fun x y=>by
 simp only [zak_s,-eq_self,sZ];kernel_rfl
def zak_w:CQ:=qBs [(0,some 0,some (.node,47)),(0,some 5,some (.str,9))] (qB4 [true,false,false] zak_c)
theorem zak_ok:qAe Tryz.prog 21 zak_w:=qAv zak_val
def zai_q:IQ:=(.seq (rg 8 [oP 4 (.box 27 15 t0),oP 6 (.box 30 10 t2),oP 8 (.mv (vI 0))]) (.seq (rg 9 [oP 12 (.load (some 15) t4),oM 13 t1,oP 14 (.load (some 10) t6),oM 15 t3,oP 16 (.build [.slice none 0 0,.string ⟨#[]⟩,.bool false,.string ⟨#[]⟩,.bool false,.slice none 0 0,.bool false,.string ⟨#[]⟩,.bool false,.bool false,.int .i64 0,.bool false,.int .i64 0,.bool false,.int .i64 0,.int .i64 0,.string ⟨#[]⟩,.string ⟨#[]⟩,.bool false,.string ⟨#[]⟩,.bool false,.string ⟨#[]⟩,.bool false,.int .i64 0,.bool false,.int .i64 0,.int .i64 0] [(0,15,t12),(15,1,t13),(16,10,t14),(26,1,t15)]),oP 17 (.box 51 27 t16),oM 9 t17]) (.seq (.seq (rg 44 [oM 18 t9,oP 19 (.ext (.mkfn 14 1) [t18]),oP 20 (.build [.nilFunc,.int .i64 0] [(0,1,t19),(1,1,(vI 12))]),oM 21 t9,oP 22 (.ext (.mkfn 15 1) [t21]),oP 23 (.build [.nilFunc,.int .i64 0] [(0,1,t22),(1,1,(vI 111))]),oM 24 t9,oP 25 (.ext (.mkfn 16 1) [t24]),oP 26 (.build [.nilFunc,.int .i64 0] [(0,1,t25),(1,1,(vI 137))]),oM 27 t9,oP 28 (.ext (.mkfn 17 1) [t27]),oP 29 (.build [.nilFunc,.int .i64 0] [(0,1,t28),(1,1,(vI 133))]),oM 30 t9,oP 31 (.ext (.mkfn 18 1) [t30]),oP 32 (.build [.nilFunc,.int .i64 0] [(0,1,t31),(1,1,(vI 151))]),oM 33 t9,oP 34 (.ext (.mkfn 19 1) [t33]),oP 35 (.build [.nilFunc,.int .i64 0] [(0,1,t34),(1,1,(vI 150))]),oM 36 t9,oP 37 (.ext (.mkfn 20 1) [t36]),oP 38 (.build [.nilFunc,.int .i64 0] [(0,1,t37),(1,1,(vI 152))]),oM 39 t9,oP 40 (.ext (.mkfn 21 1) [t39]),oP 41 (.build [.nilFunc,.int .i64 0] [(0,1,t40),(1,1,(vI 153))]),oP 42 (.bslice 52 2 8 [.nilFunc,.int .i64 0] [(0,t20),(1,t23),(2,t26),(3,t29),(4,t32),(5,t35),(6,t38),(7,t41)]),oP 43 (.len t42),oP 44 (.mv (vI 0))]) (.block 0 (.unroll 10 (.seq (rg 45 [oP 45 (.bi .lss t44 t43)]) (.seq (.cond t45 .skip (.exit 0)) (.seq (.block 1 (.seq (rg 0 [oP 46 (.iaddr 2 t42 t44),oP 47 (.load (some 2) t46),oP 11 (.alloc 52 [.nilFunc,.int .i64 0]),oN (.store 2 t11 t47)]) (.seq (rg 50 [oP 48 (.faddr 0 t11),oP 49 (.load none t48),oP 50 (.callV t49 [])]) (.cond t50 (.seq (rg 8 [oP 51 (.faddr 1 t11),oP 52 (.load none t51),oM 8 t52]) (.cn [8] .ret)) .skip)))) (rg 44 [oP 53 (.bi .add t44 (vI 1)),oM 44 t53]))))))) (.seq (rg 8 [oP 8 (.mv (vI 0))]) (.cn [8] .ret)))))
def qF4 (c:qGj) (a:Int) (w:qHc) (now:Int):Option Int :=
 gd (0≤(0:Int)∧(0:Int)<((8:Nat):Int)) <|
 (zat_s (⟨c,a,w,now⟩:idtoken_check)).bind fun r1 =>
 bif r1 then (
  some (12:Int))
 else (
  gd (qAc ((0:Int)+(1:Int))) <|
  gd (0≤((0:Int)+(1:Int))∧((0:Int)+(1:Int))<((8:Nat):Int)) <|
  (zal_s (⟨c,a,w,now⟩:idtoken_check)).bind fun r2 =>
  bif r2 then (
   some (111:Int))
  else (
   gd (qAc (((0:Int)+(1:Int))+(1:Int))) <|
   gd (0≤(((0:Int)+(1:Int))+(1:Int))∧(((0:Int)+(1:Int))+(1:Int))<((8:Nat):Int)) <|
   (zar_s (⟨c,a,w,now⟩:idtoken_check)).bind fun r3 =>
   bif r3 then (
    some (137:Int))
   else (
    gd (qAc ((((0:Int)+(1:Int))+(1:Int))+(1:Int))) <|
    gd (0≤((((0:Int)+(1:Int))+(1:Int))+(1:Int))∧((((0:Int)+(1:Int))+(1:Int))+(1:Int))<((8:Nat):Int)) <|
    (zam_s (⟨c,a,w,now⟩:idtoken_check)).bind fun r4 =>
    bif r4 then (
     some (133:Int))
    else (
     gd (qAc (((((0:Int)+(1:Int))+(1:Int))+(1:Int))+(1:Int))) <|
     gd (0≤(((((0:Int)+(1:Int))+(1:Int))+(1:Int))+(1:Int))∧(((((0:Int)+(1:Int))+(1:Int))+(1:Int))+(1:Int))<((8:Nat):Int)) <|
     (zan_s (⟨c,a,w,now⟩:idtoken_check)).bind fun r5 =>
     bif r5 then (
      some (151:Int))
     else (
      gd (qAc ((((((0:Int)+(1:Int))+(1:Int))+(1:Int))+(1:Int))+(1:Int))) <|
      gd (0≤((((((0:Int)+(1:Int))+(1:Int))+(1:Int))+(1:Int))+(1:Int))∧((((((0:Int)+(1:Int))+(1:Int))+(1:Int))+(1:Int))+(1:Int))<((8:Nat):Int)) <|
      (zas_s (⟨c,a,w,now⟩:idtoken_check)).bind fun r6 =>
      bif r6 then (
       some (150:Int))
      else (
       gd (qAc (((((((0:Int)+(1:Int))+(1:Int))+(1:Int))+(1:Int))+(1:Int))+(1:Int))) <|
       gd (0≤(((((((0:Int)+(1:Int))+(1:Int))+(1:Int))+(1:Int))+(1:Int))+(1:Int))∧(((((((0:Int)+(1:Int))+(1:Int))+(1:Int))+(1:Int))+(1:Int))+(1:Int))<((8:Nat):Int)) <|
       (zap_s (⟨c,a,w,now⟩:idtoken_check)).bind fun r7 =>
       bif r7 then (
        some (152:Int))
       else (
        gd (qAc ((((((((0:Int)+(1:Int))+(1:Int))+(1:Int))+(1:Int))+(1:Int))+(1:Int))+(1:Int))) <|
        gd (0≤((((((((0:Int)+(1:Int))+(1:Int))+(1:Int))+(1:Int))+(1:Int))+(1:Int))+(1:Int))∧((((((((0:Int)+(1:Int))+(1:Int))+(1:Int))+(1:Int))+(1:Int))+(1:Int))+(1:Int))<((8:Nat):Int)) <|
        (zak_s (⟨c,a,w,now⟩:idtoken_check)).bind fun r8 =>
        bif r8 then (
         some (153:Int))
        else (
         gd (qAc (((((((((0:Int)+(1:Int))+(1:Int))+(1:Int))+(1:Int))+(1:Int))+(1:Int))+(1:Int))+(1:Int))) <|
         some (0:Int)))))))))
def zai_c:CS:=mkC (qAa (dVC (dCA (qAa (dO 0) (qAa dS (qAa dB (qAa dS (qAa dB (qAa (dO 1) (qAa dB (qAa dS (qAa dB (qAa dB (qAa dZ (qAa dB (qAa dZ (qAa dB (qAa dZ dNil))))))))))))))))) (qAa (dVC (dCO dZ)) (qAa (dVC (dCA (qAa dS (qAa dS (qAa dB (qAa dS (qAa dB (qAa dS (qAa dB (qAa dZ (qAa dB (qAa dZ dNil)))))))))))) (qAa (dVC (dCO dZ)) dNil)))) (qAa (qBa .node) (qAa (qBa .str) dNil)) (fun x y=>qF4 (⟨y.1,x.1.2.1,x.1.2.2.1,x.1.2.2.2.1,x.1.2.2.2.2.1,y.2.1,x.1.2.2.2.2.2.2.1,x.1.2.2.2.2.2.2.2.1,x.1.2.2.2.2.2.2.2.2.1,(⟨x.1.2.2.2.2.2.2.2.2.2.1,x.1.2.2.2.2.2.2.2.2.2.2.1⟩:qGk),(⟨x.1.2.2.2.2.2.2.2.2.2.2.2.1,x.1.2.2.2.2.2.2.2.2.2.2.2.2.1⟩:qGk),(⟨x.1.2.2.2.2.2.2.2.2.2.2.2.2.2.1,x.1.2.2.2.2.2.2.2.2.2.2.2.2.2.2.1⟩:qGk)⟩:qGj) x.2.1 (⟨x.2.2.1.1,x.2.2.1.2.1,x.2.2.1.2.2.1,x.2.2.1.2.2.2.1,x.2.2.1.2.2.2.2.1,x.2.2.1.2.2.2.2.2.1,x.2.2.1.2.2.2.2.2.2.1,x.2.2.1.2.2.2.2.2.2.2.1,x.2.2.1.2.2.2.2.2.2.2.2.1,x.2.2.1.2.2.2.2.2.2.2.2.2.1⟩:qHc) x.2.2.2.1) (fun x y r=>.c (.o (.vI r))) fun x y r=>[.view .node y.1,.view .str y.2.1]
theorem zai_val:qAf Tryz.prog 9 zai_c:=vl0 zai_q [.tmp 8] 54 45 2 [(14,(toInl zat_w)),(15,(toInl zal_w)),(16,(toInl zar_w)),(17,(toInl zam_w)),(18,(toInl zan_w)),(19,(toInl zas_w)),(20,(toInl zap_w)),(21,(toInl zak_w))] ⟨(qCf (by kernel_rfl) zat_ok),(qCf (by kernel_rfl) zal_ok),(qCf (by kernel_rfl) zar_ok),(qCf (by kernel_rfl) zam_ok),(qCf (by kernel_rfl) zan_ok),(qCf (by kernel_rfl) zas_ok),(qCf (by kernel_rfl) zap_ok),(qCf (by kernel_rfl) zak_ok),tV⟩ fun x y=>by
 simp only [qF4,-eq_self,sZ];kernel_rfl
def zai_w:CQ:=qBs [(0,some 0,some (.node,47)),(0,some 5,some (.str,9))] (qCc [false,false] zai_c)
theorem zai_ok:qAe Tryz.prog 9 zai_w:=qB3 zai_val
end
theorem getD_str {l:List BA} {i:Nat} (h:i<l.length):l.getD i (ET.dft .str)=l[i]:=by simp [List.getD,h]
theorem index_loop (v:BA) (l:List BA) (hl:l.length≤3000000):∀(j i:Nat),i+j=l.length →
  (∃k:Nat,zcz_p0 v (l.length:Int) (i:Int) l=some (.inl (k:Int))∧v∈l.drop i)∨(zcz_p0 v (l.length:Int) (i:Int) l=some (.inr ())∧¬v∈l.drop i)
 | 0,i,h=>by
  refine .inr ⟨?_,?_⟩
  ·unfold zcz_p0;refine qAj ?_;unfold qDc;rw [deF (by omega),cnF]
  ·rw [List.drop_eq_nil_of_le (by omega)];exact fun h=>by cases h
 | j+1,i,h=>by
  have hi:i<l.length:=by omega
  have hd:l.drop i=l[i]::l.drop (i+1):=List.drop_eq_getElem_cons hi;by_cases he:v=l[i]
  ·refine .inl ⟨i,?_,?_⟩
   ·unfold zcz_p0;refine qAj ?_;unfold qDc;rw [deT (by omega),cnT,qAb (by omega),qAb (by omega),Int.toNat_natCast,getD_str hi,deT he,cnT]
   ·rw [hd,he]; exact List.mem_cons_self
  ·have hst:qDc v (l.length:Int) (i:Int) l=some (.inl ((i+1:Nat):Int)):=by
    unfold qDc;rw [deT (by omega),cnT,qAb (by omega),qAb (by omega),Int.toNat_natCast,getD_str hi,deF he,cnF];exact qAb (by unfold qAc; omega) _
   have hm:v∈l.drop i↔v∈l.drop (i+1):=by rw [hd,List.mem_cons]; simp [he]
   have ih:=index_loop v l hl j (i+1) (by omega);rw [hm];unfold zcz_p0 at ih ⊢;rw [qA9 hst];exact ih
def inB (l:List BA) (v:BA):Bool:=l.any fun s=>decide (s=v)
theorem inB_iff {l:List BA} {v:BA}:inB l v=true↔v∈l:=by
 unfold inB;rw [List.any_eq_true];constructor
 ·rintro ⟨x,hx,h⟩
  rw [←of_decide_eq_true h];exact hx
 ·exact fun h=>⟨v,h,deT rfl⟩
theorem contains_is (l:List BA) (hl:l.length≤3000000) (v:BA):zcx_s l v=some (inB l v):=by
 have h:=index_loop v l hl l.length 0 (by omega);rw [List.drop_zero,show ((0:Nat):Int)=0 from rfl,←inB_iff] at h;unfold zcx_s zcz_s;rcases h with ⟨k,h,hm⟩ | ⟨h,hm⟩
 ·rw [h,obS,Sum.elim_inl,obS,deT (by omega),hm]
 ·rw [h,obS,Sum.elim_inr,obS,deF (by omega)];cases hb:inB l v with
  | true=>exact (hm hb).elim
  | false=>rfl
theorem any_loop (l:List BA) (P:BA→Bool) (step:Int→Option (Int ⊕ (Int ⊕ Unit))) (hs:∀(i:Nat) (h:i<l.length),step (i:Int)=some (bif P l[i] then .inr (.inl (i:Int)) else .inl ((i:Int)+1))) (he:step (l.length:Int)=some (.inr (.inr ()))):∀(j i:Nat),i+j=l.length →
  (∃k:Nat,qAt step (i:Int)=some (.inl (k:Int))∧(l.drop i).any P=true)∨(qAt step (i:Int)=some (.inr ())∧(l.drop i).any P=false)
 | 0,i,h=>by
  refine .inr ⟨qAj ?_,by rw [List.drop_eq_nil_of_le (by omega)]; rfl⟩;rw [show i=l.length by omega];exact he
 | j+1,i,h=>by
  have hi:i<l.length:=by omega
  have hd:l.drop i=l[i]::l.drop (i+1):=List.drop_eq_getElem_cons hi;have h1:=hs i hi;rw [hd,List.any_cons];cases hp:P l[i] with
  | true =>
   rw [hp,cnT] at h1;exact .inl ⟨i,qAj h1,rfl⟩
  | false =>
   rw [hp,cnF] at h1;rw [Bool.false_or,qA9 h1];exact any_loop l P step hs he j (i+1) (by omega)
theorem any_is (l:List BA) (P:BA→Bool) {step:Int→Option (Int ⊕ (Int ⊕ Unit))} (hs:∀(i:Nat) (h:i<l.length),step (i:Int)=some (bif P l[i] then .inr (.inl (i:Int)) else .inl ((i:Int)+1))) (he:step (l.length:Int)=some (.inr (.inr ()))) :
  (((qAt step 0).bind fun o3=>(Sum.elim (fun (o3_0:Int)=>some o3_0) (fun (o3_1:Unit)=>some (-1:Int))) o3).bind fun r1=>some (decide ((0:Int)≤r1)))=some (l.any P):=by
 have h:=any_loop l P step hs he l.length 0 (by omega);rw [List.drop_zero,show ((0:Nat):Int)=0 from rfl] at h;rcases h with ⟨k,h,hm⟩ | ⟨h,hm⟩
 ·rw [h,hm,obS,Sum.elim_inl,obS,deT (by omega)]
 ·rw [h,hm,obS,Sum.elim_inr,obS,deF (by omega)]
theorem others_is (l:List BA) (hl:l.length≤3000000) (f:idtoken_check):zcw_s l f=some (l.any fun s=>!decide (s=f.w.client)):=by
 unfold zcw_s zcy_s zcy_p0;refine any_is l (fun s=>!decide (s=f.w.client)) (fun i hi=>?_) ?_
 ·unfold qFh;rw [deT (by omega),cnT,qAb (by omega),qAb (by omega),Int.toNat_natCast,getD_str hi];unfold zao_s;rw [obS];dsimp only;cases decide (l[i]=f.w.client) with
  | true =>
   rw [Bool.not_true,cnF,cnF];exact qAb (by unfold qAc; omega) _
  | false=>rfl
 ·unfold qFh;rw [deF (by omega),cnF]
def qBx (w:qHc):Bool:=(decide (w.leeway<0) || decide (600<w.leeway)) || (w.hasAge && (decide (w.maxAge<0) || decide (2147483648<w.maxAge)))
def missB (c:qGj):Bool:=!((((c.hasIss && c.hasSub) && c.hasAud) && c.exp_.has) && c.iat.has)
def sdB (v:List Eng.Node) (m:BA→Int) (name text:BA):Bool:=(decide (0≤m name) && decide ((v.getD (m name).toNat (ET.dft .node)).kind=5)) && decide ((v.getD (m name).toNat (ET.dft .node)).text=text)
def kAzp:BA:=⟨#[97,122,112]⟩
def kNonce:BA:=⟨#[110,111,110,99,101]⟩
def kAt:BA:=⟨#[97,116,95,104,97,115,104]⟩
def kC:BA:=⟨#[99,95,104,97,115,104]⟩
def qE1:BA:=⟨#[97,117,116,104,95,116,105,109,101]⟩
def azpB (m:BA→Int) (c:qGj) (w:qHc):Bool:=bif decide (0≤m kAzp) then !sdB c.value m kAzp w.client else c.aud.any fun s=>!decide (s=w.client)
def qDe (m:BA→Int) (c:qGj) (w:qHc):Bool:=w.hasNonce && !sdB c.value m kNonce w.nonce
def hashB (m:BA→Int) (c:qGj) (a:Int) (w:qHc):Bool:=(w.hasAccess && !sdB c.value m kAt (halfT a w.access)) || (w.hasCode && !sdB c.value m kC (halfT a w.code))
def ageB (m:BA→Int) (c:qGj) (w:qHc) (now:Int):Bool:=w.hasAge && (((decide (m qE1<0) || !decide ((c.value.getD (m qE1).toNat (ET.dft .node)).kind=4)) || !(c.value.getD (m qE1).toNat (ET.dft .node)).whole) || decide ((c.value.getD (m qE1).toNat (ET.dft .node)).int+(w.maxAge+w.leeway)<now))
def chkV (m:BA→Int) (c:qGj) (a:Int) (w:qHc) (now:Int):Int :=
 bif qBx w then 12 else bif decide (hsh a=0) then 111 else bif missB c then 137 else bif !inB c.aud w.client then 133 else bif azpB m c w then 151 else bif qDe m c w then 150 else bif hashB m c a w then 152 else bif ageB m c w now then 153 else 0
structure Mem (v:List Eng.Node) (m:BA→Int):Prop where
 is:∀n,zba_s v 0 n=some (m n)
 lt:∀n,m n<v.length
theorem p_said {k:idtoken_check} {m:BA→Int} (hm:Mem k.c.value m) (name text:BA):zau_s k name text=some (sdB k.c.value m name text):=by
 have h:=hm.lt name;unfold zau_s sdB;rw [hm.is,obS];by_cases h0:0≤m name
 ·rw [deT h0]
  repeat refine (qAb (fun _=>by omega) _).trans ?_
  rfl
 ·rw [deF h0]
  repeat refine (qAb (fun h=>by cases h) _).trans ?_
  rfl
theorem p_azp {k:idtoken_check} {m:BA→Int} (hm:Mem k.c.value m) (hl:k.c.aud.length≤3000000):zan_s k=some (azpB m k.c k.w):=by
 unfold zan_s azpB;rw [show (⟨#[97,122,112]⟩:BA)=kAzp from rfl,hm.is,obS,p_said hm,others_is _ hl];cases decide (0≤m kAzp) with
 | true =>
  rw [cnT,cnT,obS];exact qAb rfl _
 | false=>rfl
theorem p_nonce {k:idtoken_check} {m:BA→Int} (hm:Mem k.c.value m):zas_s k=some (qDe m k.c k.w):=by
 unfold zas_s qDe;rw [show (⟨#[110,111,110,99,101]⟩:BA)=kNonce from rfl,p_said hm];cases k.w.hasNonce <;> rfl
theorem p_half1 (text:BA) (k:idtoken_check):zaq_s text k=some (halfT k.a text):=by
 unfold zaq_s;rw [p_Half];rfl
theorem p_hashes {k:idtoken_check} {m:BA→Int} (hm:Mem k.c.value m):zap_s k=some (hashB m k.c k.a k.w):=by
 unfold zap_s hashB;rw [show (⟨#[97,116,95,104,97,115,104]⟩:BA)=kAt from rfl,show (⟨#[99,95,104,97,115,104]⟩:BA)=kC from rfl];rw [p_half1,p_half1,obS,obS];cases k.w.hasAccess with
 | true =>
  rw [cnT];refine (qAb rfl _).trans ?_;rw [p_said hm,obS];refine (qAb rfl _).trans ?_;cases sdB k.c.value m kAt (halfT k.a k.w.access) <;> cases k.w.hasCode <;> try rfl
  rw [Bool.not_true,Bool.and_false,Bool.not_false,Bool.and_true,cnT];refine (qAb rfl _).trans ?_;rw [p_said hm,obS];exact qAb rfl _
 | false =>
  rw [cnF];cases k.w.hasCode with
  | true =>
   rw [Bool.false_and,Bool.not_false,Bool.and_true,cnT];refine (qAb rfl _).trans ?_;rw [p_said hm,obS];exact qAb rfl _
  | false=>rfl
theorem p_age {k:idtoken_check} {m:BA→Int} (hm:Mem k.c.value m) (hi:∀n∈k.c.value,qAc n.int) (hn:qAc k.now) (hp:qBx k.w=false):zak_s k=some (ageB m k.c k.w k.now):=by
 have h:=hm.lt qE1;unfold zak_s ageB;rw [show (⟨#[97,117,116,104,95,116,105,109,101]⟩:BA)=qE1 from rfl,hm.is,obS];unfold qBx at hp;cases hA:k.w.hasAge with
 | false=>rfl
 | true =>
  rw [hA] at hp;simp only [Bool.true_and,Bool.or_eq_false_iff,decide_eq_false_iff_not] at hp;rw [Bool.not_true,cnF,Bool.true_and];by_cases h0:m qE1<0
  ·rw [deT h0]
   repeat refine (qAb (fun h=>by cases h) _).trans ?_
   rfl
  ·rw [deF h0]
   repeat refine (qAb (fun _=>by omega) _).trans ?_
   rw [Bool.false_or];cases hc:(!decide ((k.c.value.getD (m qE1).toNat (ET.dft .node)).kind=4) || !(k.c.value.getD (m qE1).toNat (ET.dft .node)).whole) with
   | true=>rfl
   | false =>
    have hlt:(m qE1).toNat<k.c.value.length:=by omega
    have hin:qAc (k.c.value.getD (m qE1).toNat (ET.dft .node)).int:=by
     rw [List.getD_eq_getElem?_getD,List.getElem?_eq_getElem hlt];exact hi _ (List.getElem_mem hlt)
    generalize (k.c.value.getD (m qE1).toNat (ET.dft .node)).int=at_ at hin ⊢
    unfold qAc at hin hn;rw [cnF,qAb (by omega),qAb (by omega),qAb (by omega),qAb (by unfold qAc; omega),qAb (by unfold qAc; omega),qAb (fun h=>by have:=of_decide_eq_true h; unfold qAc; omega)];rw [Bool.false_or];congr 1
    by_cases h1:at_≤9223372036854775807 - (k.w.maxAge+k.w.leeway)
    ·rw [deT h1,Bool.true_and]
    ·rw [deF h1,Bool.false_and,deF (by omega)]
theorem check_v {c:qGj} {m:BA→Int} (a:Int) (w:qHc) (now:Int) (hm:Mem c.value m) (hi:∀n∈c.value,qAc n.int) (hl:c.aud.length≤3000000) (hn:qAc now):qF4 c a w now=some (chkV m c a w now):=by
 have e1:zat_s ⟨c,a,w,now⟩=some (qBx w):=rfl;have e2:zal_s ⟨c,a,w,now⟩=some (decide (hsh a=0)):=by
  unfold zal_s;rw [p_hash];rfl
 have e3:zar_s ⟨c,a,w,now⟩=some (missB c):=rfl;have e4:zam_s ⟨c,a,w,now⟩=some (!inB c.aud w.client):=by
  unfold zam_s;rw [contains_is _ hl];rfl
 have e5:zan_s ⟨c,a,w,now⟩=some (azpB m c w):=p_azp (k:=⟨c,a,w,now⟩) hm hl;have e6:zas_s ⟨c,a,w,now⟩=some (qDe m c w):=p_nonce (k:=⟨c,a,w,now⟩) hm;have e7:zap_s ⟨c,a,w,now⟩=some (hashB m c a w):=p_hashes (k:=⟨c,a,w,now⟩) hm;have e8:qBx w=false→zak_s ⟨c,a,w,now⟩=some (ageB m c w now):=fun h=>p_age (k:=⟨c,a,w,now⟩) hm hi hn h
 unfold qF4 chkV;refine (qAb (by decide) _).trans ?_;rw [e1,obS];cases hp:qBx w with
 | true=>rfl
 | false =>
  rw [e8 hp,e2,e3,e4,e5,e6,e7];generalize decide (hsh a=0)=b2
  generalize missB c=b3
  generalize (!inB c.aud w.client)=b4
  generalize azpB m c w=b5
  generalize qDe m c w=b6
  generalize hashB m c a w=b7
  generalize ageB m c w now=b8
  have g:∀ {x:Int} {q:Prop} {R:Option Int},qAc x→q→gd (qAc x) (gd q R)=R:=fun h1 h2=>(qAb h1 _).trans (qAb h2 _)
  rw [cnF,cnF,g (by unfold qAc; decide) (by decide),obS];cases b2 with
  | true=>rfl
  | false =>
  rw [cnF,cnF,g (by unfold qAc; decide) (by decide),obS];cases b3 with
  | true=>rfl
  | false =>
  rw [cnF,cnF,g (by unfold qAc; decide) (by decide),obS];cases b4 with
  | true=>rfl
  | false =>
  rw [cnF,cnF,g (by unfold qAc; decide) (by decide),obS];cases b5 with
  | true=>rfl
  | false =>
  rw [cnF,cnF,g (by unfold qAc; decide) (by decide),obS];cases b6 with
  | true=>rfl
  | false =>
  rw [cnF,cnF,g (by unfold qAc; decide) (by decide),obS];cases b7 with
  | true=>rfl
  | false =>
  rw [cnF,cnF,g (by unfold qAc; decide) (by decide),obS];cases b8 with
  | true=>rfl
  | false =>
  rw [cnF,cnF];exact qAb (by unfold qAc; decide) _
end Go.Proofs.YtlmfmmgfiffjiaaGreatDoor
