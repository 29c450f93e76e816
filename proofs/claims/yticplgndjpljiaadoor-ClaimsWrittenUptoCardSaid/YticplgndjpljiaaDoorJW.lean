/-
  Functions as the engine reads them (printed by gen.py).
-/
import Derived.Test.YticplgndjpljiaaDoorEngO
import Derived.Test.YticplgndjpljiaaDoorProg
import Derived.Test.YticplgndjpljiaaDoorUtf8
import Derived.Test.YticplgndjpljiaaDoorGC
import Derived.Test.YticplgndjpljiaaDoorPUtf
import Derived.Test.YticplgndjpljiaaDoorPShape
import Derived.Test.YticplgndjpljiaaDoorJP
import Derived.Test.YticplgndjpljiaaDoorPLexQ
namespace Go.Proofs.YticplgndjpljiaaDoor
open Go.Eng
set_option linter.unusedVariables false
set_option linter.unusedSimpArgs false
set_option maxRecDepth 100000
noncomputable section
structure qHe where
 has:Bool
 at_:Int
structure qHb where
 value:(List Eng.Node)
 iss:BA
 hasIss:Bool
 sub:BA
 hasSub:Bool
 aud:(List BA)
 hasAud:Bool
 jti:BA
 hasJti:Bool
 exp_:qHe
 nbf:qHe
 iat:qHe
structure qHv where
 empty:Bool
 from_:Int
 to_:Int
structure qHw where
 algs:(List BA)
 iss:BA
 hasIss:Bool
 aud:BA
 hasAud:Bool
 typ:BA
 hasTyp:Bool
 leeway:Int
 need:(List BA)
structure qIf where
 high:Int
 low:Int
structure qG5 where
 addr:Bool
 buf:(List Int)
def zae_b0:IQ:=(.loop [0,1,28,29,30] (.join [(1000000,some 5,.u8,0)] [0,1,28,29,30] (.seq (rg 31 [oP 31 (.bi .lss t30 t29)]) (.seq (.cond t31 .skip (.cn [0] (.exit 4))) (.seq (.block 5 (.seq (rg 8 [oP 32 (.iaddr 1 t28 t30),oP 33 (.load none t32),oM 8 t33]) (.seq (.seq (rg 39 [oM 34 t1,oM 35 t8,oP 36 (.iaddr 6 t34 t35),oP 37 (.faddr 0 t36),oP 38 (.load none t37),oP 39 (.bi .neq t38 (vI 5))]) (.cond t39 (.seq (rg 6 [oP 6 (.mv vF)]) (.canon [(1000000,some 5,.u8,0),(3000003,none,.u8,0)] [6] .ret)) .skip)) (.reg 0 (some [0,1,2,3,4,5,6,7,8,9,10,11,12,13,14]) ([oM 40 t0]++rF 41 t0 5++[oM 45 t1,oM 46 t8,oP 47 (.iaddr 6 t45 t46),oP 48 (.faddr 2 t47),oP 49 (.load none t48),oP 50 (.bslice 9 1 1 [.string ⟨#[]⟩] [(0,t49)]),oP 51 (.append 9 1 16 [.string ⟨#[]⟩] t44 t50)]++rS 52 t40 5 t51))))) (rg 30 [oP 54 (.bi .add t30 (vI 1)),oM 30 t54]))))))
def zae_b1:IQ:=(.seq (rg 0 ([oM 55 t0,oM 56 t1,oM 57 t2,oP 58 (.iaddr 6 t56 t57),oP 59 (.faddr 2 t58),oP 60 (.load none t59),oP 61 (.bslice 9 1 1 [.string ⟨#[]⟩] [(0,t60)])]++rS 62 t55 5 t61)) (.seq (rg 6 [oP 6 (.mv vT)]) (.canon [(1000000,some 5,.u8,0),(3000003,none,.u8,0)] [6] .ret)))
def zae_q:IQ:=(.seq (rg 6 [oP 6 (.mv vF)]) (.seq (rg 0 ([oM 9 t0]++rS 10 t9 6 vT)) (.seq (.seq (rg 16 [oM 12 t1,oM 13 t2,oP 14 (.iaddr 6 t12 t13),oP 15 (.faddr 0 t14),oP 16 (.load none t15)]) (.block 0 (.seq (.block 3 (.block 2 (.seq (.block 1 (.seq (.seq (.seq (rg 17 [oP 18 (.bi .eql t16 (vI 6)),oM 17 t18]) (.cond t17 (.exit 1) .skip)) (.seq (.seq (.seq (rg 19 [oP 20 (.bi .eql t16 (vI 1)),oM 19 t20]) (.cond t19 .skip (rg 19 [oP 21 (.bi .eql t16 (vI 3)),oM 19 t21]))) (.cond t19 (.exit 2) .skip)) (.seq (.seq (rg 22 [oP 23 (.bi .eql t16 (vI 2)),oM 22 t23]) (.cond t22 .skip (.seq (rg 22 [oP 24 (.bi .eql t16 (vI 4)),oM 22 t24]) (.cond t22 .skip (rg 22 [oP 25 (.bi .eql t16 (vI 7)),oM 22 t25]))))) (.cond t22 (.exit 3) .skip)))) (.exit 0))) (.seq (.seq (.seq (rg 30 [oM 26 t1,oM 27 t2,oP 28 (.call 29 [t26,t27]),oP 29 (.len t28),oP 30 (.mv (vI 0))]) (.block 4 (.canon [(1000000,some 5,.u8,0)] [0,1,28,29,30] (.sub 0 zae_b0)))) (.seq (rg 6 [oP 6 (.mv vT)]) (.canon [(1000000,some 5,.u8,0),(3000003,none,.u8,0)] [6] .ret))) (.exit 0))))) (.seq (.seq (rg 6 [oP 6 (.mv vF)]) (.canon [(1000000,some 5,.u8,0),(3000003,none,.u8,0)] [6] .ret)) (.exit 0))))) (.cn [0,1,2] (.sub 1 zae_b1)))))
theorem zae_chk:chk Tryd.prog 84 []=some (zae_q.erase,[.tmp 6],64):=by kernel_rfl
def qD7 (x29_ x30_:Int) (v:List Eng.Node) (x28_:List Int) (qHn:List BA):Option ((Int × (List BA)) ⊕ ((Bool × (List BA)) ⊕ ((List BA)))) :=
 bif decide (x30_<x29_) then (
  gd (0≤x30_∧x30_<x28_.length) <|
  gd ((Int.toNat x30_)<x28_.length) <|
  gd (0≤(x28_.getD (Int.toNat x30_) (ET.dft .i64))∧(x28_.getD (Int.toNat x30_) (ET.dft .i64))<v.length) <|
  gd ((Int.toNat (x28_.getD (Int.toNat x30_) (ET.dft .i64)))<v.length) <|
  gd ((Int.toNat (x28_.getD (Int.toNat x30_) (ET.dft .i64)))<v.length) <|
  bif (!decide (((v.getD (Int.toNat (x28_.getD (Int.toNat x30_) (ET.dft .i64))) (ET.dft .node)).kind)=(5:Int))) then (
   some (.inr (.inl (false,qHn))))
  else (
   gd (0≤(x28_.getD (Int.toNat x30_) (ET.dft .i64))∧(x28_.getD (Int.toNat x30_) (ET.dft .i64))<v.length) <|
   gd ((Int.toNat (x28_.getD (Int.toNat x30_) (ET.dft .i64)))<v.length) <|
   gd ((Int.toNat (x28_.getD (Int.toNat x30_) (ET.dft .i64)))<v.length) <|
   gd (qHn.length+([(v.getD (Int.toNat (x28_.getD (Int.toNat x30_) (ET.dft .i64))) (ET.dft .node)).text]:List BA).length≤9223372036854775807∧(qHn.length+([(v.getD (Int.toNat (x28_.getD (Int.toNat x30_) (ET.dft .i64))) (ET.dft .node)).text]:List BA).length)*16≤140737488355328) <|
   gd (qAf (x30_+(1:Int))) <|
   some (.inl ((x30_+(1:Int)),(qHn++[(v.getD (Int.toNat (x28_.getD (Int.toNat x30_) (ET.dft .i64))) (ET.dft .node)).text])))))
 else (
  some (.inr (.inr qHn)))
def zae_p0 (x29_ x30_:Int) (v:List Eng.Node) (x28_:List Int) (qHn:List BA):Option ((Bool × (List BA)) ⊕ ((List BA))) :=
 qBn (fun x:(Int × (List BA))=>qD7 x29_ x.1 v x28_ x.2) (x30_,qHn)
def zae_p1 (at_:Int) (v:List Eng.Node):Option (Bool × (List BA)) :=
 gd (0≤at_∧at_<v.length) <|
 gd ((Int.toNat at_)<v.length) <|
 gd ((Int.toNat at_)<v.length) <|
 some (true,[(v.getD (Int.toNat at_) (ET.dft .node)).text])
def zae_s (c:qHb) (v:(List Eng.Node)) (at_:Int):Option (qHb × Bool) :=
 gd (0≤at_∧at_<v.length) <|
 gd ((Int.toNat at_)<v.length) <|
 gd ((Int.toNat at_)<v.length) <|
 bif decide (((v.getD (Int.toNat at_) (ET.dft .node)).kind)=(6:Int)) then (
  (zap_s v at_).bind fun r9 =>
  (zae_p0 (r9.length:Int) (0:Int) v r9 c.aud).bind fun o10=>(Sum.elim (fun (o10_0:Bool × (List BA)) =>
   some ({c with aud:=o10_0.2,hasAud:=true:qHb},o10_0.1)) (fun (o10_1:(List BA)) =>
   some ({c with aud:=o10_1,hasAud:=true:qHb},true))) o10)
 else (
  bif decide (((v.getD (Int.toNat at_) (ET.dft .node)).kind)=(1:Int)) then (
   bif decide (((v.getD (Int.toNat at_) (ET.dft .node)).kind)=(1:Int)) then (
    some ({c with hasAud:=true:qHb},false))
   else (
    bif decide (((v.getD (Int.toNat at_) (ET.dft .node)).kind)=(2:Int)) then (
     bif decide (((v.getD (Int.toNat at_) (ET.dft .node)).kind)=(2:Int)) then (
      some ({c with hasAud:=true:qHb},false))
     else (
      (zae_p1 at_ v).bind fun o11 =>
      some ({c with aud:=o11.2,hasAud:=true:qHb},o11.1)))
    else (
     bif decide (((v.getD (Int.toNat at_) (ET.dft .node)).kind)=(4:Int)) then (
      bif decide (((v.getD (Int.toNat at_) (ET.dft .node)).kind)=(4:Int)) then (
       some ({c with hasAud:=true:qHb},false))
      else (
       (zae_p1 at_ v).bind fun o12 =>
       some ({c with aud:=o12.2,hasAud:=true:qHb},o12.1)))
     else (
      bif decide (((v.getD (Int.toNat at_) (ET.dft .node)).kind)=(7:Int)) then (
       some ({c with hasAud:=true:qHb},false))
      else (
       (zae_p1 at_ v).bind fun o13 =>
       some ({c with aud:=o13.2,hasAud:=true:qHb},o13.1))))))
  else (
   bif decide (((v.getD (Int.toNat at_) (ET.dft .node)).kind)=(3:Int)) then (
    some ({c with hasAud:=true:qHb},false))
   else (
    bif decide (((v.getD (Int.toNat at_) (ET.dft .node)).kind)=(2:Int)) then (
     bif decide (((v.getD (Int.toNat at_) (ET.dft .node)).kind)=(2:Int)) then (
      some ({c with hasAud:=true:qHb},false))
     else (
      (zae_p1 at_ v).bind fun o14 =>
      some ({c with aud:=o14.2,hasAud:=true:qHb},o14.1)))
    else (
     bif decide (((v.getD (Int.toNat at_) (ET.dft .node)).kind)=(4:Int)) then (
      bif decide (((v.getD (Int.toNat at_) (ET.dft .node)).kind)=(4:Int)) then (
       some ({c with hasAud:=true:qHb},false))
      else (
       (zae_p1 at_ v).bind fun o15 =>
       some ({c with aud:=o15.2,hasAud:=true:qHb},o15.1)))
     else (
      bif decide (((v.getD (Int.toNat at_) (ET.dft .node)).kind)=(7:Int)) then (
       some ({c with hasAud:=true:qHb},false))
      else (
       (zae_p1 at_ v).bind fun o16 =>
       some ({c with aud:=o16.2,hasAud:=true:qHb},o16.1)))))))
def zae_G:Nat→Option CQ:=tblQ [(29,zap_w)]
theorem zae_Gok:∀f C,zae_G f=some C→qAe Tryd.prog f C:=qAj ⟨zap_ok,tV⟩
def zDJW1:=(qAa dB (qAa dS (qAa dB (qAa dB (qAa dZ (qAa dB (qAa dZ (qAa dB (qAa dZ dNil)))))))))
def zDJW7:=(qAa dS (qAa dB (qAa dS (qAa dB (qAa (dO 5) zDJW1)))))
def zae_d0:=(dQS (qAa (dSO 0 (dH 0 0)) (qAa (dSO 1 (dO 1)) (qAa (dSO 28 (dO 4)) (qAa (dSO 29 dZ) (qAa (dSO 30 dZ) dNil))))) (qAa (qCn 51 (qAa (dO 2) zDJW7)) (qAa (qBb .node) (qAa (qBb .node) (qAa dDead (qAa (dRow .i64 3) (qAa (dRow .str 9) dNil)))))))
def zae_l0:SubQ:=mkL zae_d0 (fun x=>zae_p0 x.1.2.2.2.1 x.1.2.2.2.2.1 x.2.2.1 x.2.2.2.2.2.1 x.2.2.2.2.2.2.1) fun x r R kn kx kr=>(Sum.elim (fun (r_0:Bool × (List BA))=>kr ⟨[sL 6 (.vB r_0.1)],[],[.cells 51 [.own 2,.vS x.2.1.2.1,.vB x.2.1.2.2.1,.vS x.2.1.2.2.2.1,.vB x.2.1.2.2.2.2.1,.own 4,.vB x.2.1.2.2.2.2.2.2.1,.vS x.2.1.2.2.2.2.2.2.2.1,.vB x.2.1.2.2.2.2.2.2.2.2.1,.vB x.2.1.2.2.2.2.2.2.2.2.2.1,.vI x.2.1.2.2.2.2.2.2.2.2.2.2.1,.vB x.2.1.2.2.2.2.2.2.2.2.2.2.2.1,.vI x.2.1.2.2.2.2.2.2.2.2.2.2.2.2.1,.vB x.2.1.2.2.2.2.2.2.2.2.2.2.2.2.2.1,.vI x.2.1.2.2.2.2.2.2.2.2.2.2.2.2.2.2.1],.view .node x.2.2.1,.view .node x.2.2.2.1,.dead,.row .str 9 r_0.2]⟩) (fun (r_1:(List BA))=>kx 4 ⟨[sL 0 (.hd 0 0)],[],[.cells 51 [.own 2,.vS x.2.1.2.1,.vB x.2.1.2.2.1,.vS x.2.1.2.2.2.1,.vB x.2.1.2.2.2.2.1,.own 4,.vB x.2.1.2.2.2.2.2.2.1,.vS x.2.1.2.2.2.2.2.2.2.1,.vB x.2.1.2.2.2.2.2.2.2.2.1,.vB x.2.1.2.2.2.2.2.2.2.2.2.1,.vI x.2.1.2.2.2.2.2.2.2.2.2.2.1,.vB x.2.1.2.2.2.2.2.2.2.2.2.2.2.1,.vI x.2.1.2.2.2.2.2.2.2.2.2.2.2.2.1,.vB x.2.1.2.2.2.2.2.2.2.2.2.2.2.2.2.1,.vI x.2.1.2.2.2.2.2.2.2.2.2.2.2.2.2.2.1],.view .node x.2.2.1,.view .node x.2.2.2.1,.dead,.row .str 9 r_1]⟩)) r
def zDJW2:=(qAa (dO 2) (qAa dS (qAa dB (qAa dS (qAa dB (qAa (dO 3) zDJW1))))))
def zDJW6:=(qAa (qBb .node) (qAa (qBb .node) (qAa (dRow .str 9) dNil)))
def zae_d1:=(dQS (qAa (dSO 0 (dH 0 0)) (qAa (dSO 1 (dO 1)) (qAa (dSO 2 dZ) dNil))) (qAa (qCn 51 zDJW2) zDJW6))
def zae_l1:SubQ:=mkL zae_d1 (fun x=>zae_p1 x.1.2.2.1 x.2.2.1) fun x r R kn kx kr=>kr ⟨[sL 6 (.vB r.1)],[],[.cells 51 [.own 2,.vS x.2.1.2.1,.vB x.2.1.2.2.1,.vS x.2.1.2.2.2.1,.vB x.2.1.2.2.2.2.1,.own 4,.vB x.2.1.2.2.2.2.2.2.1,.vS x.2.1.2.2.2.2.2.2.2.1,.vB x.2.1.2.2.2.2.2.2.2.2.1,.vB x.2.1.2.2.2.2.2.2.2.2.2.1,.vI x.2.1.2.2.2.2.2.2.2.2.2.2.1,.vB x.2.1.2.2.2.2.2.2.2.2.2.2.2.1,.vI x.2.1.2.2.2.2.2.2.2.2.2.2.2.2.1,.vB x.2.1.2.2.2.2.2.2.2.2.2.2.2.2.2.1,.vI x.2.1.2.2.2.2.2.2.2.2.2.2.2.2.2.2.1],.view .node x.2.2.1,.view .node x.2.2.2.1,.dead,.row .str 9 r.2]⟩
def zae_L:Nat→SubQ:=tblL [(0,zae_l0),(1,zae_l1)]
theorem zae_sub0:qBu zae_L zae_G 4 31 64 0 zae_b0:=qAw (show zae_L 0=zae_l0 from by kernel_rfl) fun x R kn kx kr=>qAx (step:=fun y=>qD7 x.1.2.2.2.1 y.1 x.2.2.1 x.2.2.2.2.2.1 y.2) (enc:=fun (y:Int × (List BA))=>zae_d0.e ((x.1.1,x.1.2.1,x.1.2.2.1,x.1.2.2.2.1,y.1,x.1.2.2.2.2.2),(x.2.1,x.2.2.1,x.2.2.2.1,x.2.2.2.2.1,x.2.2.2.2.2.1,y.2,x.2.2.2.2.2.2.2))) (fun y=>by kernel_rfl) (fun y ki=>by simp only [qD7,-eq_self,qAc,qAg,obA,obS,slL,slR,qAd]; kernel_rfl) (x.1.2.2.2.2.1,x.2.2.2.2.2.2.1)
theorem zae_sub1:qBu zae_L zae_G 4 31 64 1 zae_b1:=qAw (show zae_L 1=zae_l1 from by kernel_rfl) fun x R kn kx kr=>by
 simp only [zae_p1,-eq_self,qAc,qAg,obA,obS,slL,slR,qAd];kernel_rfl
theorem zae_subs:qAq zae_L zae_G 4 31 64 zae_q:=qAl (show qAs zae_L zae_G 4 31 64 [(0,zae_b0),(1,zae_b1)] from ⟨zae_sub0,zae_sub1,tV⟩)
def zDJW8:=(qAa (dVC (dCO (dO 1))) (qAa (dVC (dCO dZ)) dNil))
def zae_da:=(qAa (dVC (dCO (dH 0 0))) zDJW8)
def zae_db:=(qAa (qCn 51 zDJW2) zDJW6)
def zae_c:CS:=mkC zae_da zae_db (fun x y=>zae_s (⟨y.2.2.1,y.1.2.1,y.1.2.2.1,y.1.2.2.2.1,y.1.2.2.2.2.1,y.2.2.2.1,y.1.2.2.2.2.2.2.1,y.1.2.2.2.2.2.2.2.1,y.1.2.2.2.2.2.2.2.2.1,(⟨y.1.2.2.2.2.2.2.2.2.2.1,y.1.2.2.2.2.2.2.2.2.2.2.1⟩:qHe),(⟨y.1.2.2.2.2.2.2.2.2.2.2.2.1,y.1.2.2.2.2.2.2.2.2.2.2.2.2.1⟩:qHe),(⟨y.1.2.2.2.2.2.2.2.2.2.2.2.2.2.1,y.1.2.2.2.2.2.2.2.2.2.2.2.2.2.2.1⟩:qHe)⟩:qHb) y.2.1 x.2.2.1) (fun x y r=>.c (.o (.vB r.2))) fun x y r=>[.cells 51 [.own 2,.vS r.1.iss,.vB r.1.hasIss,.vS r.1.sub,.vB r.1.hasSub,.own 4,.vB r.1.hasAud,.vS r.1.jti,.vB r.1.hasJti,.vB r.1.exp_.has,.vI r.1.exp_.at_,.vB r.1.nbf.has,.vI r.1.nbf.at_,.vB r.1.iat.has,.vI r.1.iat.at_],.view .node y.2.1,.view .node y.2.2.1,.dead,.row .str 9 r.1.aud]
theorem zae_val:qAn Tryd.prog 84 zae_c:=qAo zae_chk 31 zae_Gok 4 (fun x=>Nat.le_of_ble_eq_true rfl) (fun y=>rfl) zae_subs fun x y=>by
 simp only [zae_s,-eq_self,qAc,qAg,obA,obS,slL,slR,qAd];kernel_rfl
def zae_w:CQ:=qBx [(0,some 0,some (.node,46)),(0,some 5,some (.str,9)),(1,none,some (.node,46))] (qCo [true,false,false,true] zae_c)
theorem zae_ok:qAe Tryd.prog 84 zae_w:=qAv zae_val
def zag_q:IQ:=(.seq (rg 6 [oP 6 (.mv vF)]) (.seq (rg 0 [oM 11 t1,oM 12 t2,oP 13 (.iaddr 6 t11 t12),oP 14 (.load (some 6) t13),oP 7 (.alloc 46 [.int .i64 0,.string ⟨#[]⟩,.string ⟨#[]⟩,.bool false,.int .i64 0,.int .i64 0]),oN (.store 6 t7 t14)]) (.seq (rg 8 [oP 8 (.mv (.v (.pointer none)))]) (.seq (rg 9 [oP 9 (.mv (.v (.pointer none)))]) (.seq (rg 10 [oP 10 (.mv (.v (.pointer none)))]) (.seq (.seq (rg 16 [oP 15 (.faddr 1 t7),oP 16 (.load none t15)]) (.block 0 (.seq (rg 17 [oP 18 (.bi .eql t16 (.v (.string ⟨#[105,115,115]⟩))),oM 17 t18]) (.cond t17 (.reg 9 (some [0,1,2,3,4,5,6,7]) [oM 19 t0,oP 20 (.nk t19),oP 21 (.faddr 1 t20),oM 22 t0,oP 23 (.nk t22),oP 24 (.faddr 2 t23),oM 8 t21,oM 9 t24]) (.seq (rg 25 [oP 26 (.bi .eql t16 (.v (.string ⟨#[115,117,98]⟩))),oM 25 t26]) (.cond t25 (.reg 9 (some [0,1,2,3,4,5,6,7]) [oM 27 t0,oP 28 (.nk t27),oP 29 (.faddr 3 t28),oM 30 t0,oP 31 (.nk t30),oP 32 (.faddr 4 t31),oM 8 t29,oM 9 t32]) (.seq (rg 33 [oP 34 (.bi .eql t16 (.v (.string ⟨#[106,116,105]⟩))),oM 33 t34]) (.cond t33 (.reg 9 (some [0,1,2,3,4,5,6,7]) [oM 35 t0,oP 36 (.nk t35),oP 37 (.faddr 7 t36),oM 38 t0,oP 39 (.nk t38),oP 40 (.faddr 8 t39),oM 8 t37,oM 9 t40]) (.seq (rg 41 [oP 42 (.bi .eql t16 (.v (.string ⟨#[101,120,112]⟩))),oM 41 t42]) (.cond t41 (rg 10 [oM 43 t0,oP 44 (.nk t43),oP 45 (.faddr 9 t44),oM 10 t45]) (.seq (rg 46 [oP 47 (.bi .eql t16 (.v (.string ⟨#[110,98,102]⟩))),oM 46 t47]) (.cond t46 (rg 10 [oM 48 t0,oP 49 (.nk t48),oP 50 (.faddr 11 t49),oM 10 t50]) (.seq (rg 51 [oP 52 (.bi .eql t16 (.v (.string ⟨#[105,97,116]⟩))),oM 51 t52]) (.cond t51 (rg 10 [oM 53 t0,oP 54 (.nk t53),oP 55 (.faddr 13 t54),oM 10 t55]) .skip)))))))))))))) (.seq (.block 1 (.seq (rg 56 [oM 57 t8,oP 58 (.ext (.ptrEq true) [t57,(.v (.pointer none))]),oM 56 t58]) (.cond t56 (.seq (rg 0 [oM 59 t8,oM 60 t9,oP 61 (.faddr 2 t7),oP 62 (.load none t61),oP 63 (.nk t59),oN (.store 1 t63 t62),oP 64 (.nk t60),oN (.store 1 t64 vT)]) (.seq (rg 6 [oP 65 (.faddr 0 t7),oP 66 (.load none t65),oP 67 (.bi .eql t66 (vI 5)),oM 6 t67]) (.canon [(1000000,some 5,.u8,0),(3000003,none,.u8,0)] [6] .ret))) (.seq (rg 68 [oM 69 t10,oP 70 (.ext (.ptrEq true) [t69,(.v (.pointer none))]),oM 68 t70]) (.cond t68 (.seq (rg 0 [oM 71 t10,oP 72 (.faddr 4 t7),oP 73 (.load none t72),oP 74 (.build [.bool false,.int .i64 0] [(0,1,vT),(1,1,t73)]),oP 75 (.nk t71),oN (.store 2 t75 t74)]) (.seq (rg 6 [oP 76 (.faddr 0 t7),oP 77 (.load none t76),oP 78 (.bi .eql t77 (vI 4)),oM 79 t78,oF 80 (.faddr 3 t7) 79,oF 81 (.load none t80) 79,oP 82 (.pick t79 t81 vF),oM 6 t82]) (.canon [(1000000,some 5,.u8,0),(3000003,none,.u8,0)] [6] .ret))) (.seq (rg 83 [oP 84 (.faddr 1 t7),oP 85 (.load none t84),oP 86 (.bi .eql t85 (.v (.string ⟨#[97,117,100]⟩))),oM 83 t86]) (.cond t83 (.seq (rg 6 [oM 87 t0,oM 88 t1,oM 89 t2,oP 90 (.call 84 [t87,t88,t89]),oM 6 t90]) (.canon [(1000000,some 5,.u8,0),(3000003,none,.u8,0)] [6] .ret)) .skip))))))) (.seq (rg 6 [oP 6 (.mv vT)]) (.canon [(1000000,some 5,.u8,0),(3000003,none,.u8,0)] [6] .ret)))))))))
theorem zag_chk:chk Tryd.prog 57 []=some (zag_q.erase,[.tmp 6],91):=by kernel_rfl
def zag_s (c:qHb) (v:(List Eng.Node)) (at_:Int):Option (qHb × Bool) :=
 gd (0≤at_∧at_<v.length) <|
 gd ((Int.toNat at_)<v.length) <|
 bif decide (((v.getD (Int.toNat at_) (ET.dft .node)).key)=(⟨#[105,115,115]⟩:BA)) then (
  some ({c with iss:=(v.getD (Int.toNat at_) (ET.dft .node)).text,hasIss:=true:qHb},decide (((v.getD (Int.toNat at_) (ET.dft .node)).kind)=(5:Int))))
 else (
  bif decide (((v.getD (Int.toNat at_) (ET.dft .node)).key)=(⟨#[115,117,98]⟩:BA)) then (
   some ({c with sub:=(v.getD (Int.toNat at_) (ET.dft .node)).text,hasSub:=true:qHb},decide (((v.getD (Int.toNat at_) (ET.dft .node)).kind)=(5:Int))))
  else (
   bif decide (((v.getD (Int.toNat at_) (ET.dft .node)).key)=(⟨#[106,116,105]⟩:BA)) then (
    some ({c with jti:=(v.getD (Int.toNat at_) (ET.dft .node)).text,hasJti:=true:qHb},decide (((v.getD (Int.toNat at_) (ET.dft .node)).kind)=(5:Int))))
   else (
    bif decide (((v.getD (Int.toNat at_) (ET.dft .node)).key)=(⟨#[101,120,112]⟩:BA)) then (
     some ({c with exp_:=(⟨true,(v.getD (Int.toNat at_) (ET.dft .node)).int⟩:qHe):qHb},((decide (((v.getD (Int.toNat at_) (ET.dft .node)).kind)=(4:Int))) && ((v.getD (Int.toNat at_) (ET.dft .node)).whole))))
    else (
     bif decide (((v.getD (Int.toNat at_) (ET.dft .node)).key)=(⟨#[110,98,102]⟩:BA)) then (
      some ({c with nbf:=(⟨true,(v.getD (Int.toNat at_) (ET.dft .node)).int⟩:qHe):qHb},((decide (((v.getD (Int.toNat at_) (ET.dft .node)).kind)=(4:Int))) && ((v.getD (Int.toNat at_) (ET.dft .node)).whole))))
     else (
      bif decide (((v.getD (Int.toNat at_) (ET.dft .node)).key)=(⟨#[105,97,116]⟩:BA)) then (
       some ({c with iat:=(⟨true,(v.getD (Int.toNat at_) (ET.dft .node)).int⟩:qHe):qHb},((decide (((v.getD (Int.toNat at_) (ET.dft .node)).kind)=(4:Int))) && ((v.getD (Int.toNat at_) (ET.dft .node)).whole))))
      else (
       bif decide (((v.getD (Int.toNat at_) (ET.dft .node)).key)=(⟨#[97,117,100]⟩:BA)) then (
        (zae_s c v at_).bind fun r2 =>
        some ({r2.1 with value:=c.value:qHb},r2.2))
       else (
        some (c,true))))))))
def zag_G:Nat→Option CQ:=tblQ [(84,zae_w)]
theorem zag_Gok:∀f C,zag_G f=some C→qAe Tryd.prog f C:=qAj ⟨zae_ok,tV⟩
def zag_L:Nat→SubQ:=tblL []
theorem zag_subs:qAq zag_L zag_G 4 17 91 zag_q:=qAl (show qAs zag_L zag_G 4 17 91 [] from tV)
def zag_da:=(qAa (dVC (dCO (dH 0 0))) zDJW8)
def zag_db:=(qAa (qCn 51 zDJW2) zDJW6)
def zag_c:CS:=mkC zag_da zag_db (fun x y=>zag_s (⟨y.2.2.1,y.1.2.1,y.1.2.2.1,y.1.2.2.2.1,y.1.2.2.2.2.1,y.2.2.2.1,y.1.2.2.2.2.2.2.1,y.1.2.2.2.2.2.2.2.1,y.1.2.2.2.2.2.2.2.2.1,(⟨y.1.2.2.2.2.2.2.2.2.2.1,y.1.2.2.2.2.2.2.2.2.2.2.1⟩:qHe),(⟨y.1.2.2.2.2.2.2.2.2.2.2.2.1,y.1.2.2.2.2.2.2.2.2.2.2.2.2.1⟩:qHe),(⟨y.1.2.2.2.2.2.2.2.2.2.2.2.2.2.1,y.1.2.2.2.2.2.2.2.2.2.2.2.2.2.2.1⟩:qHe)⟩:qHb) y.2.1 x.2.2.1) (fun x y r=>.c (.o (.vB r.2))) fun x y r=>[.cells 51 [.own 2,.vS r.1.iss,.vB r.1.hasIss,.vS r.1.sub,.vB r.1.hasSub,.own 4,.vB r.1.hasAud,.vS r.1.jti,.vB r.1.hasJti,.vB r.1.exp_.has,.vI r.1.exp_.at_,.vB r.1.nbf.has,.vI r.1.nbf.at_,.vB r.1.iat.has,.vI r.1.iat.at_],.view .node y.2.1,.view .node y.2.2.1,.dead,.row .str 9 r.1.aud]
theorem zag_val:qAn Tryd.prog 57 zag_c:=qAo zag_chk 17 zag_Gok 4 (fun x=>Nat.le_of_ble_eq_true rfl) (fun y=>rfl) zag_subs fun x y=>by
 simp only [zag_s,-eq_self,qAc,qAg,obA,obS,slL,slR,qAd];kernel_rfl
def zag_w:CQ:=qBx [(0,some 0,some (.node,46)),(0,some 5,some (.str,9)),(1,none,some (.node,46))] (qCo [true,false,false,true] zag_c)
theorem zag_ok:qAe Tryd.prog 57 zag_w:=qAv zag_val
def zad_b0:IQ:=(.loop [2,4,7,27,28,29] (.seq (rg 30 [oP 30 (.bi .lss t29 t28)]) (.seq (.cond t30 .skip (.cn [2,4,7] (.exit 0))) (.seq (.block 1 (.seq (rg 9 [oP 31 (.iaddr 1 t27 t29),oP 32 (.load none t31),oM 9 t32]) (.seq (rg 36 [oM 33 t4,oM 34 t9,oP 35 (.call 57 [t7,t33,t34]),oP 36 (.un .not t35)]) (.cond t36 (.seq (rg 3 [oP 37 (.build [.slice none 0 0,.string ⟨#[]⟩,.bool false,.string ⟨#[]⟩,.bool false,.slice none 0 0,.bool false,.string ⟨#[]⟩,.bool false,.bool false,.int .i64 0,.bool false,.int .i64 0,.bool false,.int .i64 0] []),oN (.store 15 t2 t37),oP 3 (.mv (vI 131))]) (.canon [(2,some 0,.node,46),(2,some 5,.str,9)] [2,3] .ret)) .skip)))) (rg 29 [oP 38 (.bi .add t29 (vI 1)),oM 29 t38])))))
def zad_q:IQ:=(.seq (rg 3 [oP 2 (.alloc 51 [.slice none 0 0,.string ⟨#[]⟩,.bool false,.string ⟨#[]⟩,.bool false,.slice none 0 0,.bool false,.string ⟨#[]⟩,.bool false,.bool false,.int .i64 0,.bool false,.int .i64 0,.bool false,.int .i64 0]),oP 3 (.mv (vI 0))]) (.seq (rg 6 [oM 11 t0,oP 12 (.call 20 [t11]),oM 10 t12,oP 13 (.extract t10 0),oP 14 (.extract t10 1),oP 15 (.extract t10 2),oM 4 t13,oM 5 t14,oM 6 t15]) (.seq (.seq (rg 17 [oM 16 t5,oP 17 (.bi .neq t16 (vI 0))]) (.cond t17 (.seq (rg 3 [oP 18 (.build [.slice none 0 0,.string ⟨#[]⟩,.bool false,.string ⟨#[]⟩,.bool false,.slice none 0 0,.bool false,.string ⟨#[]⟩,.bool false,.bool false,.int .i64 0,.bool false,.int .i64 0,.bool false,.int .i64 0] []),oM 19 t5,oN (.store 15 t2 t18),oM 3 t19]) (.canon [(2,some 0,.node,46),(2,some 5,.str,9)] [2,3] .ret)) .skip)) (.seq (.seq (rg 24 [oM 20 t4,oP 21 (.iaddr 6 t20 (vI 0)),oP 22 (.faddr 0 t21),oP 23 (.load none t22),oP 24 (.bi .neq t23 (vI 7))]) (.cond t24 (.seq (rg 3 [oP 25 (.build [.slice none 0 0,.string ⟨#[]⟩,.bool false,.string ⟨#[]⟩,.bool false,.slice none 0 0,.bool false,.string ⟨#[]⟩,.bool false,.bool false,.int .i64 0,.bool false,.int .i64 0,.bool false,.int .i64 0] []),oN (.store 15 t2 t25),oP 3 (.mv (vI 130))]) (.canon [(2,some 0,.node,46),(2,some 5,.str,9)] [2,3] .ret)) .skip)) (.seq (rg 7 [oP 7 (.alloc 51 [.slice none 0 0,.string ⟨#[]⟩,.bool false,.string ⟨#[]⟩,.bool false,.slice none 0 0,.bool false,.string ⟨#[]⟩,.bool false,.bool false,.int .i64 0,.bool false,.int .i64 0,.bool false,.int .i64 0])]) (.seq (.seq (rg 29 [oM 26 t4,oP 27 (.call 29 [t26,(vI 0)]),oP 28 (.len t27),oP 29 (.mv (vI 0))]) (.block 0 (.canon [(7,some 0,.node,46),(7,some 5,.str,9)] [2,4,7,27,28,29] (.sub 0 zad_b0)))) (.seq (rg 0 [oM 39 t4,oP 40 (.faddr 0 t7),oN (.store 1 t40 t39)]) (.seq (rg 3 [oP 41 (.load (some 15) t7),oN (.store 15 t2 t41),oP 3 (.mv (vI 0))]) (.canon [(2,some 0,.node,46),(2,some 5,.str,9)] [2,3] .ret)))))))))
theorem zad_chk:chk Tryd.prog 23 []=some (zad_q.erase,[.cell 2 (some 15),.tmp 3],42):=by kernel_rfl
def qDv (x28_ x29_:Int) (v:List Eng.Node) (qHx:BA) (qHq:Bool) (qHy:BA) (qHr qHs:Bool) (qHz:BA) (qHt qHo:Bool) (qHu:Int) (qHi:Bool) (qHk:Int) (qHj:Bool) (qHl:Int) (x27_:List Int) (qHp:List Eng.Node) (qHn:List BA):Option ((Int × BA × Bool × BA × Bool × Bool × BA × Bool × Bool × Int × Bool × Int × Bool × Int × (List BA)) ⊕ ((Int × BA × Bool × BA × Bool × Bool × BA × Bool × Bool × Int × Bool × Int × Bool × Int × (List Eng.Node) × (List BA)) ⊕ (BA × Bool × BA × Bool × Bool × BA × Bool × Bool × Int × Bool × Int × Bool × Int × (List BA)))) :=
 bif decide (x29_<x28_) then (
  gd (0≤x29_∧x29_<x27_.length) <|
  gd ((Int.toNat x29_)<x27_.length) <|
  (zag_s (⟨qHp,qHx,qHq,qHy,qHr,qHn,qHs,qHz,qHt,(⟨qHo,qHu⟩:qHe),(⟨qHi,qHk⟩:qHe),(⟨qHj,qHl⟩:qHe)⟩:qHb) v (x27_.getD (Int.toNat x29_) (ET.dft .i64))).bind fun r54 =>
  bif (!r54.2) then (
   some (.inr (.inl ((131:Int),(⟨#[]⟩:BA),false,(⟨#[]⟩:BA),false,false,(⟨#[]⟩:BA),false,false,(0:Int),false,(0:Int),false,(0:Int),[],[]))))
  else (
   gd (qAf (x29_+(1:Int))) <|
   some (.inl ((x29_+(1:Int)),r54.1.iss,r54.1.hasIss,r54.1.sub,r54.1.hasSub,r54.1.hasAud,r54.1.jti,r54.1.hasJti,r54.1.exp_.has,r54.1.exp_.at_,r54.1.nbf.has,r54.1.nbf.at_,r54.1.iat.has,r54.1.iat.at_,r54.1.aud))))
 else (
  some (.inr (.inr (qHx,qHq,qHy,qHr,qHs,qHz,qHt,qHo,qHu,qHi,qHk,qHj,qHl,qHn))))
def zad_p0 (x28_ x29_:Int) (v:List Eng.Node) (qHx:BA) (qHq:Bool) (qHy:BA) (qHr qHs:Bool) (qHz:BA) (qHt qHo:Bool) (qHu:Int) (qHi:Bool) (qHk:Int) (qHj:Bool) (qHl:Int) (x27_:List Int) (qHp:List Eng.Node) (qHn:List BA):Option ((Int × BA × Bool × BA × Bool × Bool × BA × Bool × Bool × Int × Bool × Int × Bool × Int × (List Eng.Node) × (List BA)) ⊕ (BA × Bool × BA × Bool × Bool × BA × Bool × Bool × Int × Bool × Int × Bool × Int × (List BA))) :=
 qBn (fun x:(Int × BA × Bool × BA × Bool × Bool × BA × Bool × Bool × Int × Bool × Int × Bool × Int × (List BA))=>qDv x28_ x.1 v x.2.1 x.2.2.1 x.2.2.2.1 x.2.2.2.2.1 x.2.2.2.2.2.1 x.2.2.2.2.2.2.1 x.2.2.2.2.2.2.2.1 x.2.2.2.2.2.2.2.2.1 x.2.2.2.2.2.2.2.2.2.1 x.2.2.2.2.2.2.2.2.2.2.1 x.2.2.2.2.2.2.2.2.2.2.2.1 x.2.2.2.2.2.2.2.2.2.2.2.2.1 x.2.2.2.2.2.2.2.2.2.2.2.2.2.1 x27_ qHp x.2.2.2.2.2.2.2.2.2.2.2.2.2.2) (x29_,qHx,qHq,qHy,qHr,qHs,qHz,qHt,qHo,qHu,qHi,qHk,qHj,qHl,qHn)
def qGu (payload:BA):Option (qHb × Int) :=
 (zar_s payload).bind fun r52 =>
 bif (!decide (r52.2.1=(0:Int))) then (
  some ((⟨[],(⟨#[]⟩:BA),false,(⟨#[]⟩:BA),false,[],false,(⟨#[]⟩:BA),false,(⟨false,(0:Int)⟩:qHe),(⟨false,(0:Int)⟩:qHe),(⟨false,(0:Int)⟩:qHe)⟩:qHb),r52.2.1))
 else (
  gd (0≤(0:Int)∧(0:Int)<r52.1.length) <|
  gd ((Int.toNat (0:Int))<r52.1.length) <|
  gd ((Int.toNat (0:Int))<r52.1.length) <|
  bif (!decide (((r52.1.getD (Int.toNat (0:Int)) (ET.dft .node)).kind)=(7:Int))) then (
   some ((⟨[],(⟨#[]⟩:BA),false,(⟨#[]⟩:BA),false,[],false,(⟨#[]⟩:BA),false,(⟨false,(0:Int)⟩:qHe),(⟨false,(0:Int)⟩:qHe),(⟨false,(0:Int)⟩:qHe)⟩:qHb),(130:Int)))
  else (
   (zap_s r52.1 (0:Int)).bind fun r53 =>
   (zad_p0 (r53.length:Int) (0:Int) r52.1 (⟨#[]⟩:BA) false (⟨#[]⟩:BA) false false (⟨#[]⟩:BA) false false (0:Int) false (0:Int) false (0:Int) r53 [] []).bind fun o55=>(Sum.elim (fun (o55_0:Int × BA × Bool × BA × Bool × Bool × BA × Bool × Bool × Int × Bool × Int × Bool × Int × (List Eng.Node) × (List BA)) =>
    some ((⟨o55_0.2.2.2.2.2.2.2.2.2.2.2.2.2.2.1,o55_0.2.1,o55_0.2.2.1,o55_0.2.2.2.1,o55_0.2.2.2.2.1,o55_0.2.2.2.2.2.2.2.2.2.2.2.2.2.2.2,o55_0.2.2.2.2.2.1,o55_0.2.2.2.2.2.2.1,o55_0.2.2.2.2.2.2.2.1,(⟨o55_0.2.2.2.2.2.2.2.2.1,o55_0.2.2.2.2.2.2.2.2.2.1⟩:qHe),(⟨o55_0.2.2.2.2.2.2.2.2.2.2.1,o55_0.2.2.2.2.2.2.2.2.2.2.2.1⟩:qHe),(⟨o55_0.2.2.2.2.2.2.2.2.2.2.2.2.1,o55_0.2.2.2.2.2.2.2.2.2.2.2.2.2.1⟩:qHe)⟩:qHb),o55_0.1)) (fun (o55_1:BA × Bool × BA × Bool × Bool × BA × Bool × Bool × Int × Bool × Int × Bool × Int × (List BA)) =>
    some ((⟨r52.1,o55_1.1,o55_1.2.1,o55_1.2.2.1,o55_1.2.2.2.1,o55_1.2.2.2.2.2.2.2.2.2.2.2.2.2,o55_1.2.2.2.2.1,o55_1.2.2.2.2.2.1,o55_1.2.2.2.2.2.2.1,(⟨o55_1.2.2.2.2.2.2.2.1,o55_1.2.2.2.2.2.2.2.2.1⟩:qHe),(⟨o55_1.2.2.2.2.2.2.2.2.2.1,o55_1.2.2.2.2.2.2.2.2.2.2.1⟩:qHe),(⟨o55_1.2.2.2.2.2.2.2.2.2.2.2.1,o55_1.2.2.2.2.2.2.2.2.2.2.2.2.1⟩:qHe)⟩:qHb),(0:Int)))) o55))
def zad_G:Nat→Option CQ:=tblQ [(20,zar_w),(29,zap_w),(57,zag_w)]
theorem zad_Gok:∀f C,zad_G f=some C→qAe Tryd.prog f C:=qAj ⟨zar_ok,zap_ok,zag_ok,tV⟩
def zDJW9:=(qAa (dRow .node 46) (qAa (dRow .str 9) dNil))
def zad_d0:=(dQS (qAa (dSO 2 (dH 0 0)) (qAa (dSO 4 (dO 1)) (qAa (dSO 7 (dH 2 0)) (qAa (dSO 27 (dO 3)) (qAa (dSO 28 dZ) (qAa (dSO 29 dZ) dNil)))))) (qAa (qCn 51 (qAa dNS (qAa dS (qAa dB (qAa dS (qAa dB (qAa dNS zDJW1))))))) (qAa (dRow .node 46) (qAa (qCn 51 (qAa (dO 4) zDJW7)) (qAa (dRow .i64 3) zDJW9)))))
def zad_l0:SubQ:=mkL zad_d0 (fun x=>zad_p0 x.1.2.2.2.2.1 x.1.2.2.2.2.2.1 x.2.2.1 x.2.2.2.1.2.1 x.2.2.2.1.2.2.1 x.2.2.2.1.2.2.2.1 x.2.2.2.1.2.2.2.2.1 x.2.2.2.1.2.2.2.2.2.2.1 x.2.2.2.1.2.2.2.2.2.2.2.1 x.2.2.2.1.2.2.2.2.2.2.2.2.1 x.2.2.2.1.2.2.2.2.2.2.2.2.2.1 x.2.2.2.1.2.2.2.2.2.2.2.2.2.2.1 x.2.2.2.1.2.2.2.2.2.2.2.2.2.2.2.1 x.2.2.2.1.2.2.2.2.2.2.2.2.2.2.2.2.1 x.2.2.2.1.2.2.2.2.2.2.2.2.2.2.2.2.2.1 x.2.2.2.1.2.2.2.2.2.2.2.2.2.2.2.2.2.2.1 x.2.2.2.2.1 x.2.2.2.2.2.1 x.2.2.2.2.2.2.1) fun x r R kn kx kr=>(Sum.elim (fun (r_0:Int × BA × Bool × BA × Bool × Bool × BA × Bool × Bool × Int × Bool × Int × Bool × Int × (List Eng.Node) × (List BA))=>kr ⟨[sL 2 (.hd 0 0),sL 3 (.vI r_0.1)],[],[.cells 51 [.own 1,.vS r_0.2.1,.vB r_0.2.2.1,.vS r_0.2.2.2.1,.vB r_0.2.2.2.2.1,.own 2,.vB r_0.2.2.2.2.2.1,.vS r_0.2.2.2.2.2.2.1,.vB r_0.2.2.2.2.2.2.2.1,.vB r_0.2.2.2.2.2.2.2.2.1,.vI r_0.2.2.2.2.2.2.2.2.2.1,.vB r_0.2.2.2.2.2.2.2.2.2.2.1,.vI r_0.2.2.2.2.2.2.2.2.2.2.2.1,.vB r_0.2.2.2.2.2.2.2.2.2.2.2.2.1,.vI r_0.2.2.2.2.2.2.2.2.2.2.2.2.2.1],.row .node 46 r_0.2.2.2.2.2.2.2.2.2.2.2.2.2.2.1,.row .str 9 r_0.2.2.2.2.2.2.2.2.2.2.2.2.2.2.2]⟩) (fun (r_1:BA × Bool × BA × Bool × Bool × BA × Bool × Bool × Int × Bool × Int × Bool × Int × (List BA))=>kx 0 ⟨[sL 2 (.hd 0 0),sL 4 (.own 1),sL 7 (.hd 2 0)],[],[.cells 51 [.val (.slice none 0 0),.vS x.2.1.2.1,.vB x.2.1.2.2.1,.vS x.2.1.2.2.2.1,.vB x.2.1.2.2.2.2.1,.val (.slice none 0 0),.vB x.2.1.2.2.2.2.2.2.1,.vS x.2.1.2.2.2.2.2.2.2.1,.vB x.2.1.2.2.2.2.2.2.2.2.1,.vB x.2.1.2.2.2.2.2.2.2.2.2.1,.vI x.2.1.2.2.2.2.2.2.2.2.2.2.1,.vB x.2.1.2.2.2.2.2.2.2.2.2.2.2.1,.vI x.2.1.2.2.2.2.2.2.2.2.2.2.2.2.1,.vB x.2.1.2.2.2.2.2.2.2.2.2.2.2.2.2.1,.vI x.2.1.2.2.2.2.2.2.2.2.2.2.2.2.2.2.1],.row .node 46 x.2.2.1,.cells 51 [.own 3,.vS r_1.1,.vB r_1.2.1,.vS r_1.2.2.1,.vB r_1.2.2.2.1,.own 4,.vB r_1.2.2.2.2.1,.vS r_1.2.2.2.2.2.1,.vB r_1.2.2.2.2.2.2.1,.vB r_1.2.2.2.2.2.2.2.1,.vI r_1.2.2.2.2.2.2.2.2.1,.vB r_1.2.2.2.2.2.2.2.2.2.1,.vI r_1.2.2.2.2.2.2.2.2.2.2.1,.vB r_1.2.2.2.2.2.2.2.2.2.2.2.1,.vI r_1.2.2.2.2.2.2.2.2.2.2.2.2.1],.row .node 46 x.2.2.2.2.2.1,.row .str 9 r_1.2.2.2.2.2.2.2.2.2.2.2.2.2]⟩)) r
def zad_L:Nat→SubQ:=tblL [(0,zad_l0)]
theorem zad_sub0:qBu zad_L zad_G 0 30 42 0 zad_b0:=qAw (show zad_L 0=zad_l0 from by kernel_rfl) fun x R kn kx kr=>qAx (step:=fun y=>qDv x.1.2.2.2.2.1 y.1 x.2.2.1 y.2.1 y.2.2.1 y.2.2.2.1 y.2.2.2.2.1 y.2.2.2.2.2.1 y.2.2.2.2.2.2.1 y.2.2.2.2.2.2.2.1 y.2.2.2.2.2.2.2.2.1 y.2.2.2.2.2.2.2.2.2.1 y.2.2.2.2.2.2.2.2.2.2.1 y.2.2.2.2.2.2.2.2.2.2.2.1 y.2.2.2.2.2.2.2.2.2.2.2.2.1 y.2.2.2.2.2.2.2.2.2.2.2.2.2.1 x.2.2.2.2.1 x.2.2.2.2.2.1 y.2.2.2.2.2.2.2.2.2.2.2.2.2.2) (enc:=fun (y:Int × BA × Bool × BA × Bool × Bool × BA × Bool × Bool × Int × Bool × Int × Bool × Int × (List BA))=>zad_d0.e ((x.1.1,x.1.2.1,x.1.2.2.1,x.1.2.2.2.1,x.1.2.2.2.2.1,y.1,x.1.2.2.2.2.2.2),(x.2.1,x.2.2.1,(x.2.2.2.1.1,y.2.1,y.2.2.1,y.2.2.2.1,y.2.2.2.2.1,x.2.2.2.1.2.2.2.2.2.1,y.2.2.2.2.2.1,y.2.2.2.2.2.2.1,y.2.2.2.2.2.2.2.1,y.2.2.2.2.2.2.2.2.1,y.2.2.2.2.2.2.2.2.2.1,y.2.2.2.2.2.2.2.2.2.2.1,y.2.2.2.2.2.2.2.2.2.2.2.1,y.2.2.2.2.2.2.2.2.2.2.2.2.1,y.2.2.2.2.2.2.2.2.2.2.2.2.2.1,x.2.2.2.1.2.2.2.2.2.2.2.2.2.2.2.2.2.2.2),x.2.2.2.2.1,x.2.2.2.2.2.1,y.2.2.2.2.2.2.2.2.2.2.2.2.2.2,x.2.2.2.2.2.2.2))) (fun y=>by kernel_rfl) (fun y ki=>by simp only [qDv,-eq_self,qAc,qAg,obA,obS,slL,slR,qAd]; kernel_rfl) (x.1.2.2.2.2.2.1,x.2.2.2.1.2.1,x.2.2.2.1.2.2.1,x.2.2.2.1.2.2.2.1,x.2.2.2.1.2.2.2.2.1,x.2.2.2.1.2.2.2.2.2.2.1,x.2.2.2.1.2.2.2.2.2.2.2.1,x.2.2.2.1.2.2.2.2.2.2.2.2.1,x.2.2.2.1.2.2.2.2.2.2.2.2.2.1,x.2.2.2.1.2.2.2.2.2.2.2.2.2.2.1,x.2.2.2.1.2.2.2.2.2.2.2.2.2.2.2.1,x.2.2.2.1.2.2.2.2.2.2.2.2.2.2.2.2.1,x.2.2.2.1.2.2.2.2.2.2.2.2.2.2.2.2.2.1,x.2.2.2.1.2.2.2.2.2.2.2.2.2.2.2.2.2.2.1,x.2.2.2.2.2.2.1)
theorem zad_subs:qAq zad_L zad_G 0 30 42 zad_q:=qAl (show qAs zad_L zad_G 0 30 42 [(0,zad_b0)] from ⟨zad_sub0,tV⟩)
def zad_da:=(qAa (dVC (dCO dS)) dNil)
def zad_db:=(dNil:Dec Unit (List SB))
def zad_c:CS:=mkC zad_da zad_db (fun x y=>qGu x.1) (fun x y r=>.tup [.agg [.own 0,.vS r.1.iss,.vB r.1.hasIss,.vS r.1.sub,.vB r.1.hasSub,.own 1,.vB r.1.hasAud,.vS r.1.jti,.vB r.1.hasJti,.vB r.1.exp_.has,.vI r.1.exp_.at_,.vB r.1.nbf.has,.vI r.1.nbf.at_,.vB r.1.iat.has,.vI r.1.iat.at_],.o (.vI r.2)]) fun x y r=>[.row .node 46 r.1.value,.row .str 9 r.1.aud]
theorem zad_val:qAn Tryd.prog 23 zad_c:=qAo zad_chk 30 zad_Gok 0 (fun x=>Nat.le_of_ble_eq_true rfl) (fun y=>rfl) zad_subs fun x y=>by
 simp only [qGu,-eq_self,qAc,qAg,obA,obS,slL,slR,qAd];kernel_rfl
def zad_w:CQ:=qCo [] zad_c
theorem zad_ok:qAe Tryd.prog 23 zad_w:=liftQ_valid zad_val
def zbw_b0:IQ:=(.loop [0,1,5] (.seq (.seq (rg 14 [oM 11 t5,oM 12 t0,oP 13 (.len t12),oP 14 (.bi .lss t11 t13)]) (.cond t14 .skip (.cn [] (.exit 0)))) (.seq (.block 1 (.seq (.reg 25 (some [0,1,2,3,4,5,6,7,8]) [oM 17 t0,oM 18 t5,oP 19 (.iaddr 1 t17 t18),oP 20 (.load none t19),oM 21 t1,oM 22 t5,oP 23 (.iaddr 1 t21 t22),oP 24 (.load none t23),oP 25 (.bi .neq t20 t24)]) (.cond t25 (.seq (rg 4 [oP 4 (.mv vF)]) (.cn [4] .ret)) .skip))) (rg 5 [oM 15 t5,oP 16 (.bi .add t15 (vI 1)),oM 5 t16]))))
def zbw_q:IQ:=(.seq (rg 4 [oP 4 (.mv vF)]) (.seq (.seq (rg 10 [oM 6 t0,oP 7 (.len t6),oM 8 t1,oP 9 (.len t8),oP 10 (.bi .neq t7 t9)]) (.cond t10 (.seq (rg 4 [oP 4 (.mv vF)]) (.cn [4] .ret)) .skip)) (.seq (.seq (rg 5 [oP 5 (.mv (vI 0))]) (.block 0 (.cn [0,1,5] (.sub 0 zbw_b0)))) (.seq (rg 4 [oP 4 (.mv vT)]) (.cn [4] .ret)))))
theorem zbw_chk:chk Tryd.prog 31 []=some (zbw_q.erase,[.tmp 4],26):=by kernel_rfl
def qFf (i:Int) (a b:List BA):Option (Int ⊕ (Bool ⊕ Unit)) :=
 bif decide (i<(a.length:Int)) then (
  gd (0≤i∧i<a.length) <|
  gd ((Int.toNat i)<a.length) <|
  gd (0≤i∧i<b.length) <|
  gd ((Int.toNat i)<b.length) <|
  bif (!decide ((a.getD (Int.toNat i) (ET.dft .str))=(b.getD (Int.toNat i) (ET.dft .str)))) then (
   some (.inr (.inl false)))
  else (
   gd (qAf (i+(1:Int))) <|
   some (.inl (i+(1:Int)))))
 else (
  some (.inr (.inr ())))
def zbw_p0 (i:Int) (a b:List BA):Option (Bool ⊕ Unit) :=
 qBn (fun x:Int=>qFf x a b) i
def zbw_s (a b:(List BA)):Option Bool :=
 bif (!decide ((a.length:Int)=(b.length:Int))) then (
  some false)
 else (
  (zbw_p0 (0:Int) a b).bind fun o1=>(Sum.elim (fun (o1_0:Bool) =>
   some o1_0) (fun (o1_1:Unit) =>
   some true)) o1)
def zbw_G:Nat→Option CQ:=tblQ []
theorem zbw_Gok:∀f C,zbw_G f=some C→qAe Tryd.prog f C:=fun f C h=>by cases h
def zbw_d0:=(dQS (qAa (dSO 0 (dO 0)) (qAa (dSO 1 (dO 1)) (qAa (dSO 5 dZ) dNil))) (qAa (qBb .str) (qAa (qBb .str) dNil)))
def zbw_l0:SubQ:=mkL zbw_d0 (fun x=>zbw_p0 x.1.2.2.1 x.2.1 x.2.2.1) fun x r R kn kx kr=>(Sum.elim (fun (r_0:Bool)=>kr ⟨[sL 4 (.vB r_0)],[],[.view .str x.2.1,.view .str x.2.2.1]⟩) (fun (r_1:Unit)=>kx 0 ⟨[],[],[.view .str x.2.1,.view .str x.2.2.1]⟩)) r
def zbw_L:Nat→SubQ:=tblL [(0,zbw_l0)]
theorem zbw_sub0:qBu zbw_L zbw_G 2 6 26 0 zbw_b0:=qAw (show zbw_L 0=zbw_l0 from by kernel_rfl) fun x R kn kx kr=>qAx (step:=fun y=>qFf y x.2.1 x.2.2.1) (enc:=fun (y:Int)=>zbw_d0.e ((x.1.1,x.1.2.1,y,x.1.2.2.2),x.2)) (fun y=>by kernel_rfl) (fun y ki=>by simp only [qFf,-eq_self,qAc,qAg,obA,obS,slL,slR,qAd]; kernel_rfl) x.1.2.2.1
theorem zbw_subs:qAq zbw_L zbw_G 2 6 26 zbw_q:=qAl (show qAs zbw_L zbw_G 2 6 26 [(0,zbw_b0)] from ⟨zbw_sub0,tV⟩)
def zbw_da:=(qAa (dVC (dCO (dO 0))) (qAa (dVC (dCO (dO 1))) dNil))
def zbw_db:=(qAa (qBb .str) (qAa (qBb .str) dNil))
def zbw_c:CS:=mkC zbw_da zbw_db (fun x y=>zbw_s y.1 y.2.1) (fun x y r=>.c (.o (.vB r))) fun x y r=>[.view .str y.1,.view .str y.2.1]
theorem zbw_val:qAn Tryd.prog 31 zbw_c:=qAo zbw_chk 6 zbw_Gok 2 (fun x=>Nat.le_of_ble_eq_true rfl) (fun y=>rfl) zbw_subs fun x y=>by
 simp only [zbw_s,-eq_self,qAc,qAg,obA,obS,slL,slR,qAd];kernel_rfl
def zbw_w:CQ:=qBx [(0,none,some (.str,9)),(1,none,some (.str,9))] (qCv [false,false] zbw_c)
theorem zbw_ok:qAe Tryd.prog 31 zbw_w:=qB4 zbw_val
def zbv_b0:IQ:=(.loop [0,1,5] (.seq (.seq (rg 14 [oM 11 t5,oM 12 t0,oP 13 (.len t12),oP 14 (.bi .lss t11 t13)]) (.cond t14 .skip (.cn [] (.exit 0)))) (.seq (.block 1 (.seq (.reg 25 (some [0,1,2,3,4,5,6,7,8]) [oM 17 t0,oM 18 t5,oP 19 (.iaddr 6 t17 t18),oP 20 (.load (some 6) t19),oM 21 t1,oM 22 t5,oP 23 (.iaddr 6 t21 t22),oP 24 (.load (some 6) t23),oP 25 (.ext (.aggEq true [.int .i64,.str,.str,.bool,.int .i64,.int .i64]) [t20,t24])]) (.cond t25 (.seq (rg 4 [oP 4 (.mv vF)]) (.cn [4] .ret)) .skip))) (rg 5 [oM 15 t5,oP 16 (.bi .add t15 (vI 1)),oM 5 t16]))))
def zbv_q:IQ:=(.seq (rg 4 [oP 4 (.mv vF)]) (.seq (.seq (rg 10 [oM 6 t0,oP 7 (.len t6),oM 8 t1,oP 9 (.len t8),oP 10 (.bi .neq t7 t9)]) (.cond t10 (.seq (rg 4 [oP 4 (.mv vF)]) (.cn [4] .ret)) .skip)) (.seq (.seq (rg 5 [oP 5 (.mv (vI 0))]) (.block 0 (.cn [0,1,5] (.sub 0 zbv_b0)))) (.seq (rg 4 [oP 4 (.mv vT)]) (.cn [4] .ret)))))
theorem zbv_chk:chk Tryd.prog 30 []=some (zbv_q.erase,[.tmp 4],26):=by kernel_rfl
def qE3 (i:Int) (a b:List Eng.Node):Option (Int ⊕ (Bool ⊕ Unit)) :=
 bif decide (i<(a.length:Int)) then (
  gd (0≤i∧i<a.length) <|
  gd ((Int.toNat i)<a.length) <|
  gd (0≤i∧i<b.length) <|
  gd ((Int.toNat i)<b.length) <|
  bif (!(decide (((a.getD (Int.toNat i) (ET.dft .node)).kind)=((b.getD (Int.toNat i) (ET.dft .node)).kind)) && (decide (((a.getD (Int.toNat i) (ET.dft .node)).key)=((b.getD (Int.toNat i) (ET.dft .node)).key)) && (decide (((a.getD (Int.toNat i) (ET.dft .node)).text)=((b.getD (Int.toNat i) (ET.dft .node)).text)) && ((((a.getD (Int.toNat i) (ET.dft .node)).whole) == ((b.getD (Int.toNat i) (ET.dft .node)).whole)) && (decide (((a.getD (Int.toNat i) (ET.dft .node)).int)=((b.getD (Int.toNat i) (ET.dft .node)).int)) && (decide (((a.getD (Int.toNat i) (ET.dft .node)).kids)=((b.getD (Int.toNat i) (ET.dft .node)).kids)) && true))))))) then (
   some (.inr (.inl false)))
  else (
   gd (qAf (i+(1:Int))) <|
   some (.inl (i+(1:Int)))))
 else (
  some (.inr (.inr ())))
def zbv_p0 (i:Int) (a b:List Eng.Node):Option (Bool ⊕ Unit) :=
 qBn (fun x:Int=>qE3 x a b) i
def zbv_s (a b:(List Eng.Node)):Option Bool :=
 bif (!decide ((a.length:Int)=(b.length:Int))) then (
  some false)
 else (
  (zbv_p0 (0:Int) a b).bind fun o1=>(Sum.elim (fun (o1_0:Bool) =>
   some o1_0) (fun (o1_1:Unit) =>
   some true)) o1)
def zbv_G:Nat→Option CQ:=tblQ []
theorem zbv_Gok:∀f C,zbv_G f=some C→qAe Tryd.prog f C:=fun f C h=>by cases h
def zbv_d0:=(dQS (qAa (dSO 0 (dO 0)) (qAa (dSO 1 (dO 1)) (qAa (dSO 5 dZ) dNil))) (qAa (qBb .node) (qAa (qBb .node) dNil)))
def zbv_l0:SubQ:=mkL zbv_d0 (fun x=>zbv_p0 x.1.2.2.1 x.2.1 x.2.2.1) fun x r R kn kx kr=>(Sum.elim (fun (r_0:Bool)=>kr ⟨[sL 4 (.vB r_0)],[],[.view .node x.2.1,.view .node x.2.2.1]⟩) (fun (r_1:Unit)=>kx 0 ⟨[],[],[.view .node x.2.1,.view .node x.2.2.1]⟩)) r
def zbv_L:Nat→SubQ:=tblL [(0,zbv_l0)]
theorem zbv_sub0:qBu zbv_L zbv_G 2 6 26 0 zbv_b0:=qAw (show zbv_L 0=zbv_l0 from by kernel_rfl) fun x R kn kx kr=>qAx (step:=fun y=>qE3 y x.2.1 x.2.2.1) (enc:=fun (y:Int)=>zbv_d0.e ((x.1.1,x.1.2.1,y,x.1.2.2.2),x.2)) (fun y=>by kernel_rfl) (fun y ki=>by simp only [qE3,-eq_self,qAc,qAg,obA,obS,slL,slR,qAd]; kernel_rfl) x.1.2.2.1
theorem zbv_subs:qAq zbv_L zbv_G 2 6 26 zbv_q:=qAl (show qAs zbv_L zbv_G 2 6 26 [(0,zbv_b0)] from ⟨zbv_sub0,tV⟩)
def zbv_da:=(qAa (dVC (dCO (dO 0))) (qAa (dVC (dCO (dO 1))) dNil))
def zbv_db:=(qAa (qBb .node) (qAa (qBb .node) dNil))
def zbv_c:CS:=mkC zbv_da zbv_db (fun x y=>zbv_s y.1 y.2.1) (fun x y r=>.c (.o (.vB r))) fun x y r=>[.view .node y.1,.view .node y.2.1]
theorem zbv_val:qAn Tryd.prog 30 zbv_c:=qAo zbv_chk 6 zbv_Gok 2 (fun x=>Nat.le_of_ble_eq_true rfl) (fun y=>rfl) zbv_subs fun x y=>by
 simp only [zbv_s,-eq_self,qAc,qAg,obA,obS,slL,slR,qAd];kernel_rfl
def zbv_w:CQ:=qBx [(0,none,some (.node,46)),(1,none,some (.node,46))] (qCv [false,false] zbv_c)
theorem zbv_ok:qAe Tryd.prog 30 zbv_w:=qB4 zbv_val
def zbu_q:IQ:=(.seq (rg 4 [oP 2 (.box 51 15 t0),oP 3 (.box 51 15 t1),oP 4 (.mv vF)]) (.seq (rg 4 [oP 5 (.faddr 1 t2),oP 6 (.load none t5),oP 7 (.faddr 1 t3),oP 8 (.load none t7),oP 9 (.bi .eql t6 t8),oM 10 t9,oF 11 (.faddr 2 t2) 10,oF 12 (.load none t11) 10,oF 13 (.faddr 2 t3) 10,oF 14 (.load none t13) 10,oF 15 (.beq false t12 t14) 10,oP 16 (.pick t10 t15 vF),oM 17 t16,oF 18 (.faddr 3 t2) 17,oF 19 (.load none t18) 17,oF 20 (.faddr 3 t3) 17,oF 21 (.load none t20) 17,oF 22 (.bi .eql t19 t21) 17,oP 23 (.pick t17 t22 vF),oM 24 t23,oF 25 (.faddr 4 t2) 24,oF 26 (.load none t25) 24,oF 27 (.faddr 4 t3) 24,oF 28 (.load none t27) 24,oF 29 (.beq false t26 t28) 24,oP 30 (.pick t24 t29 vF),oM 31 t30,oF 32 (.faddr 5 t2) 31,oF 33 (.load none t32) 31,oF 34 (.faddr 5 t3) 31,oF 35 (.load none t34) 31,oF 36 (.call 31 [t33,t35]) 31,oP 37 (.pick t31 t36 vF),oM 38 t37,oF 39 (.faddr 6 t2) 38,oF 40 (.load none t39) 38,oF 41 (.faddr 6 t3) 38,oF 42 (.load none t41) 38,oF 43 (.beq false t40 t42) 38,oP 44 (.pick t38 t43 vF),oM 45 t44,oF 46 (.faddr 7 t2) 45,oF 47 (.load none t46) 45,oF 48 (.faddr 7 t3) 45,oF 49 (.load none t48) 45,oF 50 (.bi .eql t47 t49) 45,oP 51 (.pick t45 t50 vF),oM 52 t51,oF 53 (.faddr 8 t2) 52,oF 54 (.load none t53) 52,oF 55 (.faddr 8 t3) 52,oF 56 (.load none t55) 52,oF 57 (.beq false t54 t56) 52,oP 58 (.pick t52 t57 vF),oM 59 t58,oF 60 (.faddr 9 t2) 59,oF 61 (.load (some 2) t60) 59,oF 62 (.faddr 9 t3) 59,oF 63 (.load (some 2) t62) 59,oF 64 (.ext (.aggEq false [.bool,.int .i64]) [t61,t63]) 59,oP 65 (.pick t59 t64 vF),oM 66 t65,oF 67 (.faddr 11 t2) 66,oF 68 (.load (some 2) t67) 66,oF 69 (.faddr 11 t3) 66,oF 70 (.load (some 2) t69) 66,oF 71 (.ext (.aggEq false [.bool,.int .i64]) [t68,t70]) 66,oP 72 (.pick t66 t71 vF),oM 73 t72,oF 74 (.faddr 13 t2) 73,oF 75 (.load (some 2) t74) 73,oF 76 (.faddr 13 t3) 73,oF 77 (.load (some 2) t76) 73,oF 78 (.ext (.aggEq false [.bool,.int .i64]) [t75,t77]) 73,oP 79 (.pick t73 t78 vF),oM 80 t79,oF 81 (.faddr 0 t2) 80,oF 82 (.load none t81) 80,oF 83 (.faddr 0 t3) 80,oF 84 (.load none t83) 80,oF 85 (.call 30 [t82,t84]) 80,oP 86 (.pick t80 t85 vF),oM 4 t86]) (.cn [4] .ret)))
theorem zbu_chk:chk Tryd.prog 25 []=some (zbu_q.erase,[.tmp 4],87):=by kernel_rfl
def zbu_s (a b:qHb):Option Bool :=
 bif ((((decide (a.iss=b.iss)) && (a.hasIss == b.hasIss)) && (decide (a.sub=b.sub))) && (a.hasSub == b.hasSub)) then (
  (zbw_s a.aud b.aud).bind fun r1 =>
  bif ((((((r1 && (a.hasAud == b.hasAud)) && (decide (a.jti=b.jti))) && (a.hasJti == b.hasJti)) && ((a.exp_.has == b.exp_.has) && (decide (a.exp_.at_=b.exp_.at_) && true))) && ((a.nbf.has == b.nbf.has) && (decide (a.nbf.at_=b.nbf.at_) && true))) && ((a.iat.has == b.iat.has) && (decide (a.iat.at_=b.iat.at_) && true))) then (
   (zbv_s a.value b.value).bind fun r2 =>
   some r2)
  else (
   some false))
 else (
  some false)
def zbu_G:Nat→Option CQ:=tblQ [(31,zbw_w),(30,zbv_w)]
theorem zbu_Gok:∀f C,zbu_G f=some C→qAe Tryd.prog f C:=qAj ⟨zbw_ok,zbv_ok,tV⟩
def zbu_L:Nat→SubQ:=tblL []
theorem zbu_subs:qAq zbu_L zbu_G 4 5 87 zbu_q:=qAl (show qAs zbu_L zbu_G 4 5 87 [] from tV)
def zDJW3:=(qAa (dO 0) (qAa dS (qAa dB (qAa dS (qAa dB (qAa (dO 1) zDJW1))))))
def zbu_da:=(qAa (dVC (dCA zDJW3)) (qAa (dVC (dCA zDJW2)) dNil))
def zbu_db:=(qAa (qBb .node) (qAa (qBb .str) (qAa (qBb .node) (qAa (qBb .str) dNil))))
def zbu_c:CS:=mkC zbu_da zbu_db (fun x y=>zbu_s (⟨y.1,x.1.2.1,x.1.2.2.1,x.1.2.2.2.1,x.1.2.2.2.2.1,y.2.1,x.1.2.2.2.2.2.2.1,x.1.2.2.2.2.2.2.2.1,x.1.2.2.2.2.2.2.2.2.1,(⟨x.1.2.2.2.2.2.2.2.2.2.1,x.1.2.2.2.2.2.2.2.2.2.2.1⟩:qHe),(⟨x.1.2.2.2.2.2.2.2.2.2.2.2.1,x.1.2.2.2.2.2.2.2.2.2.2.2.2.1⟩:qHe),(⟨x.1.2.2.2.2.2.2.2.2.2.2.2.2.2.1,x.1.2.2.2.2.2.2.2.2.2.2.2.2.2.2.1⟩:qHe)⟩:qHb) (⟨y.2.2.1,x.2.1.2.1,x.2.1.2.2.1,x.2.1.2.2.2.1,x.2.1.2.2.2.2.1,y.2.2.2.1,x.2.1.2.2.2.2.2.2.1,x.2.1.2.2.2.2.2.2.2.1,x.2.1.2.2.2.2.2.2.2.2.1,(⟨x.2.1.2.2.2.2.2.2.2.2.2.1,x.2.1.2.2.2.2.2.2.2.2.2.2.1⟩:qHe),(⟨x.2.1.2.2.2.2.2.2.2.2.2.2.2.1,x.2.1.2.2.2.2.2.2.2.2.2.2.2.2.1⟩:qHe),(⟨x.2.1.2.2.2.2.2.2.2.2.2.2.2.2.2.1,x.2.1.2.2.2.2.2.2.2.2.2.2.2.2.2.2.1⟩:qHe)⟩:qHb)) (fun x y r=>.c (.o (.vB r))) fun x y r=>[.view .node y.1,.view .str y.2.1,.view .node y.2.2.1,.view .str y.2.2.2.1]
theorem zbu_val:qAn Tryd.prog 25 zbu_c:=qAo zbu_chk 5 zbu_Gok 4 (fun x=>Nat.le_of_ble_eq_true rfl) (fun y=>rfl) zbu_subs fun x y=>by
 simp only [zbu_s,-eq_self,qAc,qAg,obA,obS,slL,slR,qAd];kernel_rfl
def zbu_w:CQ:=qBx [(0,some 0,some (.node,46)),(0,some 5,some (.str,9)),(1,some 0,some (.node,46)),(1,some 5,some (.str,9))] (qCv [false,false,false,false] zbu_c)
theorem zbu_ok:qAe Tryd.prog 25 zbu_w:=qB4 zbu_val
def zaf_q:IQ:=(.seq (rg 4 [oP 4 (.mv (vI 0))]) (.seq (.block 0 (.seq (rg 5 [oM 6 t1,oP 7 (.bi .gtr t6 (vI 0)),oM 8 t7,oF 9 (.mv t0) 8,oF 10 (.mv t1) 8,oF 11 (.bi .sub (vI 9223372036854775807) t10) 8,oF 12 (.bi .gtr t9 t11) 8,oP 13 (.pick t8 t12 vF),oM 5 t13]) (.cond t5 (.seq (rg 4 [oP 4 (.mv (vI 9223372036854775807))]) (.cn [4] .ret)) (.seq (rg 14 [oM 15 t1,oP 16 (.bi .lss t15 (vI 0)),oM 17 t16,oF 18 (.mv t0) 17,oF 19 (.mv t1) 17,oF 20 (.bi .sub (.v (.int .i64 (-9223372036854775808))) t19) 17,oF 21 (.bi .lss t18 t20) 17,oP 22 (.pick t17 t21 vF),oM 14 t22]) (.cond t14 (.seq (rg 4 [oP 4 (.mv (.v (.int .i64 (-9223372036854775808))))]) (.cn [4] .ret)) .skip))))) (.seq (rg 4 [oM 23 t0,oM 24 t1,oP 25 (.bi .add t23 t24),oM 4 t25]) (.cn [4] .ret))))
theorem zaf_chk:chk Tryd.prog 62 []=some (zaf_q.erase,[.tmp 4],26):=by kernel_rfl
def zaf_s (a b:Int):Option Int :=
 gd ((decide ((0:Int)<b))=true→qAf ((9223372036854775807:Int) - b)) <|
 bif ((decide ((0:Int)<b)) && (decide (((9223372036854775807:Int) - b)<a))) then (
  some (9223372036854775807:Int))
 else (
  gd ((decide (b<(0:Int)))=true→qAf ((-9223372036854775808:Int) - b)) <|
  bif ((decide (b<(0:Int))) && (decide (a<((-9223372036854775808:Int) - b)))) then (
   some (-9223372036854775808:Int))
  else (
   gd (qAf (a+b)) <|
   some (a+b)))
def zaf_G:Nat→Option CQ:=tblQ []
theorem zaf_Gok:∀f C,zaf_G f=some C→qAe Tryd.prog f C:=fun f C h=>by cases h
def zaf_L:Nat→SubQ:=tblL []
theorem zaf_subs:qAq zaf_L zaf_G 0 5 26 zaf_q:=qAl (show qAs zaf_L zaf_G 0 5 26 [] from tV)
def zaf_da:=(qAa (dVC (dCO dZ)) (qAa (dVC (dCO dZ)) dNil))
def zaf_db:=(dNil:Dec Unit (List SB))
def zaf_c:CS:=mkC zaf_da zaf_db (fun x y=>zaf_s x.1 x.2.1) (fun x y r=>.c (.o (.vI r))) fun x y r=>[]
theorem zaf_val:qAn Tryd.prog 62 zaf_c:=qAo zaf_chk 5 zaf_Gok 0 (fun x=>Nat.le_of_ble_eq_true rfl) (fun y=>rfl) zaf_subs fun x y=>by
 simp only [zaf_s,-eq_self,qAc,qAg,obA,obS,slL,slR,qAd];kernel_rfl
def zaf_w:CQ:=qCv [] zaf_c
theorem zaf_ok:qAe Tryd.prog 62 zaf_w:=qA1 zaf_val
def zac_b1:IQ:=(.loop [1,4,6,7,39,40,41] (.seq (rg 42 [oP 42 (.bi .lss t41 t40)]) (.seq (.cond t42 .skip (.cn [4,6,7] (.exit 0))) (.seq (.block 1 (.seq (rg 0 [oP 43 (.iaddr 2 t39 t41),oP 44 (.load (some 2) t43),oP 9 (.alloc 49 [.bool false,.int .i64 0]),oN (.store 2 t9 t44)]) (.seq (rg 46 [oP 45 (.faddr 0 t9),oP 46 (.load none t45)]) (.cond t46 (rg 6 [oM 47 t6,oP 48 (.faddr 1 t9),oP 49 (.load none t48),oM 50 t1,oP 51 (.un .neg t50),oP 52 (.call 62 [t49,t51]),oP 53 (.mm true t47 t52),oM 6 t53]) .skip)))) (rg 41 [oP 54 (.bi .add t41 (vI 1)),oM 41 t54])))))
def zac_b0:IQ:=(.seq (.seq (rg 41 [oP 35 (.faddr 11 t2),oP 36 (.load (some 2) t35),oP 37 (.faddr 13 t2),oP 38 (.load (some 2) t37),oP 39 (.bslice 49 2 2 [.bool false,.int .i64 0] [(0,t36),(1,t38)]),oP 40 (.len t39),oP 41 (.mv (vI 0))]) (.block 0 (.cn [1,4,6,7,39,40,41] (.sub 1 zac_b1)))) (.seq (.seq (rg 57 [oM 55 t7,oM 56 t6,oP 57 (.bi .lss t55 t56)]) (.cond t57 (.seq (rg 5 [oP 58 (.build [.bool false,.int .i64 0,.int .i64 0] [(0,1,vT)]),oN (.store 3 t4 t58),oP 5 (.mv (vI 0))]) (.cn [4,5] .ret)) .skip)) (.seq (rg 5 [oM 59 t6,oM 60 t7,oP 61 (.build [.bool false,.int .i64 0,.int .i64 0] [(1,1,t59),(2,1,t60)]),oN (.store 3 t4 t61),oP 5 (.mv (vI 0))]) (.cn [4,5] .ret))))
def zac_q:IQ:=(.seq (rg 5 [oP 2 (.box 51 15 t0),oP 4 (.alloc 68 [.bool false,.int .i64 0,.int .i64 0]),oP 5 (.mv (vI 0))]) (.seq (.seq (rg 15 [oM 10 t1,oP 11 (.bi .lss t10 (vI 0)),oM 12 t11,oE 13 (.mv t1) 12,oE 14 (.bi .gtr t13 (vI 600)) 12,oP 15 (.pick t12 vT t14)]) (.cond t15 (.seq (rg 5 [oP 16 (.build [.bool false,.int .i64 0,.int .i64 0] []),oN (.store 3 t4 t16),oP 5 (.mv (vI 12))]) (.cn [4,5] .ret)) .skip)) (.seq (rg 7 [oP 6 (.mv (.v (.int .i64 (-9223372036854775808)))),oP 7 (.mv (vI 9223372036854775807))]) (.seq (.seq (rg 19 [oP 17 (.faddr 9 t2),oP 18 (.faddr 0 t17),oP 19 (.load none t18)]) (.cond t19 (.seq (.seq (rg 27 [oP 20 (.faddr 9 t2),oP 21 (.faddr 1 t20),oP 22 (.load none t21),oP 23 (.bi .eql t22 (.v (.int .i64 (-9223372036854775808)))),oM 24 t23,oF 25 (.mv t1) 24,oF 26 (.bi .eql t25 (vI 0)) 24,oP 27 (.pick t24 t26 vF)]) (.cond t27 (.seq (rg 5 [oP 28 (.build [.bool false,.int .i64 0,.int .i64 0] [(0,1,vT)]),oN (.store 3 t4 t28),oP 5 (.mv (vI 0))]) (.cn [4,5] .ret)) .skip)) (rg 7 [oP 29 (.faddr 9 t2),oP 30 (.faddr 1 t29),oP 31 (.load none t30),oM 32 t1,oP 33 (.bi .sub t32 (vI 1)),oP 34 (.call 62 [t31,t33]),oM 7 t34])) .skip)) (.cn [1,2,4,6,7] (.sub 0 zac_b0))))))
theorem zac_chk:chk Tryd.prog 36 []=some (zac_q.erase,[.cell 4 (some 3),.tmp 5],62):=by kernel_rfl
def qFm (leeway from_ x40_ x41_:Int) (x39_:List Eng.Tm):Option ((Int × Int) ⊕ Int) :=
 bif decide (x41_<x40_) then (
  gd (0≤x41_∧x41_<x39_.length) <|
  gd ((Int.toNat x41_)<x39_.length) <|
  bif (x39_.getD (Int.toNat x41_) (ET.dft .tm)).has then (
   gd (qAf (0 - leeway)) <|
   (zaf_s ((x39_.getD (Int.toNat x41_) (ET.dft .tm)).at_) (0 - leeway)).bind fun r6 =>
   gd (qAf (x41_+(1:Int))) <|
   some (.inl ((if r6 > from_ then r6 else from_),(x41_+(1:Int)))))
  else (
   gd (qAf (x41_+(1:Int))) <|
   some (.inl (from_,(x41_+(1:Int))))))
 else (
  some (.inr from_))
def zac_p1 (leeway from_ x40_ x41_:Int) (x39_:List Eng.Tm):Option Int :=
 qBn (fun x:(Int × Int)=>qFm leeway x.1 x40_ x.2 x39_) (from_,x41_)
def zac_p0 (leeway from_ to_:Int) (qHi:Bool) (qHk:Int) (qHj:Bool) (qHl:Int):Option (Int × Bool × Int × Int) :=
 (zac_p1 leeway from_ ([(⟨qHi,qHk⟩:Eng.Tm),(⟨qHj,qHl⟩:Eng.Tm)].length:Int) (0:Int) [(⟨qHi,qHk⟩:Eng.Tm),(⟨qHj,qHl⟩:Eng.Tm)]).bind fun o7 =>
 bif decide (to_<o7) then (
  some ((0:Int),true,(0:Int),(0:Int)))
 else (
  some ((0:Int),false,o7,to_))
def zac_s (c:qHb) (leeway:Int):Option (qHv × Int) :=
 bif ((decide (leeway<(0:Int))) || (decide ((600:Int)<leeway))) then (
  some ((⟨false,(0:Int),(0:Int)⟩:qHv),(12:Int)))
 else (
  bif c.exp_.has then (
   bif ((decide (c.exp_.at_=(-9223372036854775808:Int))) && (decide (leeway=(0:Int)))) then (
    some ((⟨true,(0:Int),(0:Int)⟩:qHv),(0:Int)))
   else (
    gd (qAf (leeway - (1:Int))) <|
    (zaf_s c.exp_.at_ (leeway - (1:Int))).bind fun r5 =>
    (zac_p0 leeway (-9223372036854775808:Int) r5 c.nbf.has c.nbf.at_ c.iat.has c.iat.at_).bind fun o8 =>
    some ((⟨o8.2.1,o8.2.2.1,o8.2.2.2⟩:qHv),o8.1)))
  else (
   (zac_p0 leeway (-9223372036854775808:Int) (9223372036854775807:Int) c.nbf.has c.nbf.at_ c.iat.has c.iat.at_).bind fun o9 =>
   some ((⟨o9.2.1,o9.2.2.1,o9.2.2.2⟩:qHv),o9.1)))
def zac_G:Nat→Option CQ:=tblQ [(62,zaf_w)]
theorem zac_Gok:∀f C,zac_G f=some C→qAe Tryd.prog f C:=qAj ⟨zaf_ok,tV⟩
def zDJW5:=(qAa dB (qAa dZ (qAa dZ dNil)))
def zac_d1:=(dQS (qAa (dSO 1 dZ) (qAa (dSO 4 (dH 2 0)) (qAa (dSO 6 dZ) (qAa (dSO 7 dZ) (qAa (dSO 39 (dO 3)) (qAa (dSO 40 dZ) (qAa (dSO 41 dZ) dNil))))))) (qAa (qBb .node) (qAa (qBb .str) (qAa (qCn 68 zDJW5) (qAa (dRow .tm 49) dNil)))))
def zac_l1:SubQ:=mkL zac_d1 (fun x=>zac_p1 x.1.1 x.1.2.2.1 x.1.2.2.2.2.2.1 x.1.2.2.2.2.2.2.1 x.2.2.2.2.1) fun x r R kn kx kr=>kx 0 ⟨[sL 4 (.hd 2 0),sL 6 (.vI r),sL 7 (.vI x.1.2.2.2.1)],[],[.view .node x.2.1,.view .str x.2.2.1,.cells 68 [.vB x.2.2.2.1.1,.vI x.2.2.2.1.2.1,.vI x.2.2.2.1.2.2.1]]⟩
def zac_d0:=(dQS (qAa (dSO 1 dZ) (qAa (dSO 2 (dH 2 0)) (qAa (dSO 4 (dH 3 0)) (qAa (dSO 6 dZ) (qAa (dSO 7 dZ) dNil))))) (qAa (qBb .node) (qAa (qBb .str) (qAa (qCn 51 zDJW3) (qAa (qCn 68 zDJW5) dNil)))))
def zac_l0:SubQ:=mkL zac_d0 (fun x=>zac_p0 x.1.1 x.1.2.2.2.1 x.1.2.2.2.2.1 x.2.2.2.1.2.2.2.2.2.2.2.2.2.2.2.1 x.2.2.2.1.2.2.2.2.2.2.2.2.2.2.2.2.1 x.2.2.2.1.2.2.2.2.2.2.2.2.2.2.2.2.2.1 x.2.2.2.1.2.2.2.2.2.2.2.2.2.2.2.2.2.2.1) fun x r R kn kx kr=>kr ⟨[sL 4 (.hd 2 0),sL 5 (.vI r.1)],[],[.view .node x.2.1,.view .str x.2.2.1,.cells 68 [.vB r.2.1,.vI r.2.2.1,.vI r.2.2.2]]⟩
def zac_L:Nat→SubQ:=tblL [(1,zac_l1),(0,zac_l0)]
theorem zac_sub1:qBu zac_L zac_G 2 42 62 1 zac_b1:=qAw (show zac_L 1=zac_l1 from by kernel_rfl) fun x R kn kx kr=>qAx (step:=fun y=>qFm x.1.1 y.1 x.1.2.2.2.2.2.1 y.2 x.2.2.2.2.1) (enc:=fun (y:Int × Int)=>zac_d1.e ((x.1.1,x.1.2.1,y.1,x.1.2.2.2.1,x.1.2.2.2.2.1,x.1.2.2.2.2.2.1,y.2,x.1.2.2.2.2.2.2.2),x.2)) (fun y=>by kernel_rfl) (fun y ki=>by simp only [qFm,-eq_self,qAc,qAg,obA,obS,slL,slR,qAd]; kernel_rfl) (x.1.2.2.1,x.1.2.2.2.2.2.2.1)
theorem zac_sub0:qBu zac_L zac_G 2 42 62 0 zac_b0:=qAw (show zac_L 0=zac_l0 from by kernel_rfl) fun x R kn kx kr=>by
 simp only [zac_p0,-eq_self,qAc,qAg,obA,obS,slL,slR,qAd];kernel_rfl
theorem zac_subs:qAq zac_L zac_G 2 42 62 zac_q:=qAl (show qAs zac_L zac_G 2 42 62 [(0,zac_b0),(1,zac_b1)] from ⟨zac_sub0,zac_sub1,tV⟩)
def zac_da:=(qAa (dVC (dCA zDJW3)) (qAa (dVC (dCO dZ)) dNil))
def zac_db:=(qAa (qBb .node) (qAa (qBb .str) dNil))
def zac_c:CS:=mkC zac_da zac_db (fun x y=>zac_s (⟨y.1,x.1.2.1,x.1.2.2.1,x.1.2.2.2.1,x.1.2.2.2.2.1,y.2.1,x.1.2.2.2.2.2.2.1,x.1.2.2.2.2.2.2.2.1,x.1.2.2.2.2.2.2.2.2.1,(⟨x.1.2.2.2.2.2.2.2.2.2.1,x.1.2.2.2.2.2.2.2.2.2.2.1⟩:qHe),(⟨x.1.2.2.2.2.2.2.2.2.2.2.2.1,x.1.2.2.2.2.2.2.2.2.2.2.2.2.1⟩:qHe),(⟨x.1.2.2.2.2.2.2.2.2.2.2.2.2.2.1,x.1.2.2.2.2.2.2.2.2.2.2.2.2.2.2.1⟩:qHe)⟩:qHb) x.2.1) (fun x y r=>.tup [.agg [.vB r.1.empty,.vI r.1.from_,.vI r.1.to_],.o (.vI r.2)]) fun x y r=>[.view .node y.1,.view .str y.2.1]
theorem zac_val:qAn Tryd.prog 36 zac_c:=qAo zac_chk 42 zac_Gok 2 (fun x=>Nat.le_of_ble_eq_true rfl) (fun y=>rfl) zac_subs fun x y=>by
 simp only [zac_s,-eq_self,qAc,qAg,obA,obS,slL,slR,qAd];kernel_rfl
def zac_w:CQ:=qBx [(0,some 0,some (.node,46)),(0,some 5,some (.str,9))] (qCv [false,false] zac_c)
theorem zac_ok:qAe Tryd.prog 36 zac_w:=qB4 zac_val
def zby_b0:IQ:=(.loop [0,1,7,8] (.seq (rg 9 [oP 9 (.bi .lss t8 t7)]) (.seq (.cond t9 .skip (.cn [] (.exit 0))) (.seq (.block 1 (.seq (rg 5 [oM 10 t8,oM 5 t10]) (.seq (rg 16 [oM 11 t1,oM 12 t0,oM 13 t5,oP 14 (.iaddr 1 t12 t13),oP 15 (.load none t14),oP 16 (.bi .eql t11 t15)]) (.cond t16 (.seq (rg 4 [oM 17 t5,oM 4 t17]) (.cn [4] .ret)) .skip)))) (rg 8 [oP 18 (.bi .add t8 (vI 1)),oM 8 t18])))))
def zby_q:IQ:=(.seq (rg 4 [oP 4 (.mv (vI 0))]) (.seq (.seq (rg 8 [oM 6 t0,oP 7 (.len t6),oP 8 (.mv (vI 0))]) (.block 0 (.cn [0,1,7,8] (.sub 0 zby_b0)))) (.seq (rg 4 [oP 4 (.mv (.v (.int .i64 (-1))))]) (.cn [4] .ret))))
theorem zby_chk:chk Tryd.prog 76 []=some (zby_q.erase,[.tmp 4],19):=by kernel_rfl
def qC7 (v:BA) (x7_ x8_:Int) (s:List BA):Option (Int ⊕ (Int ⊕ Unit)) :=
 bif decide (x8_<x7_) then (
  gd (0≤x8_∧x8_<s.length) <|
  gd ((Int.toNat x8_)<s.length) <|
  bif decide (v=(s.getD (Int.toNat x8_) (ET.dft .str))) then (
   some (.inr (.inl x8_)))
  else (
   gd (qAf (x8_+(1:Int))) <|
   some (.inl (x8_+(1:Int)))))
 else (
  some (.inr (.inr ())))
def zby_p0 (v:BA) (x7_ x8_:Int) (s:List BA):Option (Int ⊕ Unit) :=
 qBn (fun x:Int=>qC7 v x7_ x s) x8_
def zby_s (s:(List BA)) (v:BA):Option Int :=
 (zby_p0 v (s.length:Int) (0:Int) s).bind fun o1=>(Sum.elim (fun (o1_0:Int) =>
  some o1_0) (fun (o1_1:Unit) =>
  some (-1:Int))) o1
def zby_G:Nat→Option CQ:=tblQ []
theorem zby_Gok:∀f C,zby_G f=some C→qAe Tryd.prog f C:=fun f C h=>by cases h
def zby_d0:=(dQS (qAa (dSO 0 (dO 0)) (qAa (dSO 1 dS) (qAa (dSO 7 dZ) (qAa (dSO 8 dZ) dNil)))) (qAa (qBb .str) dNil))
def zby_l0:SubQ:=mkL zby_d0 (fun x=>zby_p0 x.1.2.1 x.1.2.2.1 x.1.2.2.2.1 x.2.1) fun x r R kn kx kr=>(Sum.elim (fun (r_0:Int)=>kr ⟨[sL 4 (.vI r_0)],[],[.view .str x.2.1]⟩) (fun (r_1:Unit)=>kx 0 ⟨[],[],[.view .str x.2.1]⟩)) r
def zby_L:Nat→SubQ:=tblL [(0,zby_l0)]
theorem zby_sub0:qBu zby_L zby_G 1 9 19 0 zby_b0:=qAw (show zby_L 0=zby_l0 from by kernel_rfl) fun x R kn kx kr=>qAx (step:=fun y=>qC7 x.1.2.1 x.1.2.2.1 y x.2.1) (enc:=fun (y:Int)=>zby_d0.e ((x.1.1,x.1.2.1,x.1.2.2.1,y,x.1.2.2.2.2),x.2)) (fun y=>by kernel_rfl) (fun y ki=>by simp only [qC7,-eq_self,qAc,qAg,obA,obS,slL,slR,qAd]; kernel_rfl) x.1.2.2.2.1
theorem zby_subs:qAq zby_L zby_G 1 9 19 zby_q:=qAl (show qAs zby_L zby_G 1 9 19 [(0,zby_b0)] from ⟨zby_sub0,tV⟩)
def zby_da:=(qAa (dVC (dCO (dO 0))) (qAa (dVC (dCO dS)) dNil))
def zby_db:=(qAa (qBb .str) dNil)
def zby_c:CS:=mkC zby_da zby_db (fun x y=>zby_s y.1 x.2.1) (fun x y r=>.c (.o (.vI r))) fun x y r=>[.view .str y.1]
theorem zby_val:qAn Tryd.prog 76 zby_c:=qAo zby_chk 9 zby_Gok 1 (fun x=>Nat.le_of_ble_eq_true rfl) (fun y=>rfl) zby_subs fun x y=>by
 simp only [zby_s,-eq_self,qAc,qAg,obA,obS,slL,slR,qAd];kernel_rfl
def zby_w:CQ:=qBx [(0,none,some (.str,9))] (qCv [false] zby_c)
theorem zby_ok:qAe Tryd.prog 76 zby_w:=qB4 zby_val
def zbx_q:IQ:=(.seq (rg 4 [oP 4 (.mv vF)]) (.seq (rg 4 [oM 5 t0,oM 6 t1,oP 7 (.call 76 [t5,t6]),oP 8 (.bi .geq t7 (vI 0)),oM 4 t8]) (.cn [4] .ret)))
theorem zbx_chk:chk Tryd.prog 52 []=some (zbx_q.erase,[.tmp 4],9):=by kernel_rfl
def zbx_s (s:(List BA)) (v:BA):Option Bool :=
 (zby_s s v).bind fun r1 =>
 some (decide ((0:Int)≤r1))
def zbx_G:Nat→Option CQ:=tblQ [(76,zby_w)]
theorem zbx_Gok:∀f C,zbx_G f=some C→qAe Tryd.prog f C:=qAj ⟨zby_ok,tV⟩
def zbx_L:Nat→SubQ:=tblL []
theorem zbx_subs:qAq zbx_L zbx_G 1 5 9 zbx_q:=qAl (show qAs zbx_L zbx_G 1 5 9 [] from tV)
def zbx_da:=(qAa (dVC (dCO (dO 0))) (qAa (dVC (dCO dS)) dNil))
def zbx_db:=(qAa (qBb .str) dNil)
def zbx_c:CS:=mkC zbx_da zbx_db (fun x y=>zbx_s y.1 x.2.1) (fun x y r=>.c (.o (.vB r))) fun x y r=>[.view .str y.1]
theorem zbx_val:qAn Tryd.prog 52 zbx_c:=qAo zbx_chk 5 zbx_Gok 1 (fun x=>Nat.le_of_ble_eq_true rfl) (fun y=>rfl) zbx_subs fun x y=>by
 simp only [zbx_s,-eq_self,qAc,qAg,obA,obS,slL,slR,qAd];kernel_rfl
def zbx_w:CQ:=qBx [(0,none,some (.str,9))] (qCv [false] zbx_c)
theorem zbx_ok:qAe Tryd.prog 52 zbx_w:=qB4 zbx_val
def zaa_b0:IQ:=(.loop [2,3,8,9,10] (.seq (rg 11 [oP 11 (.bi .lss t10 t9)]) (.seq (.cond t11 .skip (.cn [2,3] (.exit 0))) (.seq (.block 1 (.seq (rg 6 [oP 12 (.iaddr 1 t8 t10),oP 13 (.load none t12),oM 6 t13]) (.seq (rg 18 [oP 14 (.faddr 0 t2),oP 15 (.load none t14),oM 16 t6,oP 17 (.call 21 [t15,(vI 0),t16]),oP 18 (.bi .lss t17 (vI 0))]) (.cond t18 (.seq (rg 4 [oP 4 (.mv (vI 137))]) (.cn [4] .ret)) .skip)))) (rg 10 [oP 19 (.bi .add t10 (vI 1)),oM 10 t19])))))
def zaa_q:IQ:=(.seq (rg 4 [oP 2 (.box 51 15 t0),oP 3 (.box 31 9 t1),oP 4 (.mv (vI 0))]) (.seq (.seq (rg 10 [oP 7 (.faddr 8 t3),oP 8 (.load none t7),oP 9 (.len t8),oP 10 (.mv (vI 0))]) (.block 0 (.cn [2,3,8,9,10] (.sub 0 zaa_b0)))) (.seq (.block 2 (.seq (rg 20 [oP 21 (.faddr 2 t3),oP 22 (.load none t21),oM 23 t22,oF 24 (.faddr 2 t2) 23,oF 25 (.load none t24) 23,oF 26 (.mv t25) 23,oF 27 (.faddr 1 t2) 26,oF 28 (.load none t27) 26,oF 29 (.faddr 1 t3) 26,oF 30 (.load none t29) 26,oF 31 (.bi .eql t28 t30) 26,oF 32 (.pick t26 t31 vF) 23,oF 33 (.un .not t32) 23,oP 34 (.pick t23 t33 vF),oM 20 t34]) (.cond t20 (.seq (rg 4 [oP 4 (.mv (vI 132))]) (.cn [4] .ret)) (.seq (.seq (rg 35 [oP 36 (.faddr 4 t3),oP 37 (.load none t36),oM 38 t37,oF 39 (.faddr 6 t2) 38,oF 40 (.load none t39) 38,oF 41 (.mv t40) 38,oF 42 (.faddr 5 t2) 41,oF 43 (.load none t42) 41,oF 44 (.faddr 3 t3) 41,oF 45 (.load none t44) 41,oF 46 (.call 52 [t43,t45]) 41,oF 47 (.pick t41 t46 vF) 38,oF 48 (.un .not t47) 38,oP 49 (.pick t38 t48 vF),oM 35 t49]) (.cond t35 .skip (rg 35 [oP 50 (.faddr 4 t3),oP 51 (.load none t50),oP 52 (.un .not t51),oM 53 t52,oF 54 (.faddr 6 t2) 53,oF 55 (.load none t54) 53,oP 56 (.pick t53 t55 vF),oM 35 t56]))) (.cond t35 (.seq (rg 4 [oP 4 (.mv (vI 133))]) (.cn [4] .ret)) .skip))))) (.seq (rg 4 [oP 4 (.mv (vI 0))]) (.cn [4] .ret)))))
theorem zaa_chk:chk Tryd.prog 34 []=some (zaa_q.erase,[.tmp 4],57):=by kernel_rfl
def qD6 (x9_ x10_:Int) (c_value:List Eng.Node) (x8_:List BA):Option (Int ⊕ (Int ⊕ Unit)) :=
 bif decide (x10_<x9_) then (
  gd (0≤x10_∧x10_<x8_.length) <|
  gd ((Int.toNat x10_)<x8_.length) <|
  (zaq_s c_value (0:Int) (x8_.getD (Int.toNat x10_) (ET.dft .str))).bind fun r2 =>
  bif decide (r2<(0:Int)) then (
   some (.inr (.inl (137:Int))))
  else (
   gd (qAf (x10_+(1:Int))) <|
   some (.inl (x10_+(1:Int)))))
 else (
  some (.inr (.inr ())))
def zaa_p0 (x9_ x10_:Int) (c_value:List Eng.Node) (x8_:List BA):Option (Int ⊕ Unit) :=
 qBn (fun x:Int=>qD6 x9_ x c_value x8_) x10_
def zaa_s (c:qHb) (p:qHw):Option Int :=
 (zaa_p0 (p.need.length:Int) (0:Int) c.value p.need).bind fun o3=>(Sum.elim (fun (o3_0:Int) =>
  some o3_0) (fun (o3_1:Unit) =>
  bif (p.hasIss && (!(c.hasIss && (decide (c.iss=p.iss))))) then (
   some (132:Int))
  else (
   bif p.hasAud then (
    bif c.hasAud then (
     (zbx_s c.aud p.aud).bind fun r4 =>
     bif (!r4) then (
      bif (!r4) then (
       some (133:Int))
      else (
       some (0:Int)))
     else (
      bif ((!p.hasAud) && c.hasAud) then (
       some (133:Int))
      else (
       some (0:Int))))
    else (
     some (133:Int)))
   else (
    bif ((!p.hasAud) && c.hasAud) then (
     some (133:Int))
    else (
     some (0:Int)))))) o3
def zaa_G:Nat→Option CQ:=tblQ [(21,zaq_w),(52,zbx_w)]
theorem zaa_Gok:∀f C,zaa_G f=some C→qAe Tryd.prog f C:=qAj ⟨zaq_ok,zbx_ok,tV⟩
def zaa_d0:=(dQS (qAa (dSO 2 (dH 4 0)) (qAa (dSO 3 (dH 5 0)) (qAa (dSO 8 (dO 3)) (qAa (dSO 9 dZ) (qAa (dSO 10 dZ) dNil))))) (qAa (qBb .node) (qAa (qBb .str) (qAa (qBb .str) (qAa (qBb .str) (qAa (qCn 51 zDJW3) (qAa (qCn 31 (qAa (dO 2) (qAa dS (qAa dB (qAa dS (qAa dB (qAa dS (qAa dB (qAa dZ (qAa (dO 3) dNil)))))))))) dNil)))))))
def zaa_l0:SubQ:=mkL zaa_d0 (fun x=>zaa_p0 x.1.2.2.2.1 x.1.2.2.2.2.1 x.2.1 x.2.2.2.2.1) fun x r R kn kx kr=>(Sum.elim (fun (r_0:Int)=>kr ⟨[sL 4 (.vI r_0)],[],[.view .node x.2.1,.view .str x.2.2.1,.view .str x.2.2.2.1,.view .str x.2.2.2.2.1]⟩) (fun (r_1:Unit)=>kx 0 ⟨[sL 2 (.hd 4 0),sL 3 (.hd 5 0)],[],[.view .node x.2.1,.view .str x.2.2.1,.view .str x.2.2.2.1,.view .str x.2.2.2.2.1,.cells 51 [.own 0,.vS x.2.2.2.2.2.1.2.1,.vB x.2.2.2.2.2.1.2.2.1,.vS x.2.2.2.2.2.1.2.2.2.1,.vB x.2.2.2.2.2.1.2.2.2.2.1,.own 1,.vB x.2.2.2.2.2.1.2.2.2.2.2.2.1,.vS x.2.2.2.2.2.1.2.2.2.2.2.2.2.1,.vB x.2.2.2.2.2.1.2.2.2.2.2.2.2.2.1,.vB x.2.2.2.2.2.1.2.2.2.2.2.2.2.2.2.1,.vI x.2.2.2.2.2.1.2.2.2.2.2.2.2.2.2.2.1,.vB x.2.2.2.2.2.1.2.2.2.2.2.2.2.2.2.2.2.1,.vI x.2.2.2.2.2.1.2.2.2.2.2.2.2.2.2.2.2.2.1,.vB x.2.2.2.2.2.1.2.2.2.2.2.2.2.2.2.2.2.2.2.1,.vI x.2.2.2.2.2.1.2.2.2.2.2.2.2.2.2.2.2.2.2.2.1],.cells 31 [.own 2,.vS x.2.2.2.2.2.2.1.2.1,.vB x.2.2.2.2.2.2.1.2.2.1,.vS x.2.2.2.2.2.2.1.2.2.2.1,.vB x.2.2.2.2.2.2.1.2.2.2.2.1,.vS x.2.2.2.2.2.2.1.2.2.2.2.2.1,.vB x.2.2.2.2.2.2.1.2.2.2.2.2.2.1,.vI x.2.2.2.2.2.2.1.2.2.2.2.2.2.2.1,.own 3]]⟩)) r
def zaa_L:Nat→SubQ:=tblL [(0,zaa_l0)]
theorem zaa_sub0:qBu zaa_L zaa_G 4 11 57 0 zaa_b0:=qAw (show zaa_L 0=zaa_l0 from by kernel_rfl) fun x R kn kx kr=>qAx (step:=fun y=>qD6 x.1.2.2.2.1 y x.2.1 x.2.2.2.2.1) (enc:=fun (y:Int)=>zaa_d0.e ((x.1.1,x.1.2.1,x.1.2.2.1,x.1.2.2.2.1,y,x.1.2.2.2.2.2),x.2)) (fun y=>by kernel_rfl) (fun y ki=>by simp only [qD6,-eq_self,qAc,qAg,obA,obS,slL,slR,qAd]; kernel_rfl) x.1.2.2.2.2.1
theorem zaa_subs:qAq zaa_L zaa_G 4 11 57 zaa_q:=qAl (show qAs zaa_L zaa_G 4 11 57 [(0,zaa_b0)] from ⟨zaa_sub0,tV⟩)
def zaa_da:=(qAa (dVC (dCA zDJW3)) (qAa (dVC (dCA (qAa (dO 2) (qAa dS (qAa dB (qAa dS (qAa dB (qAa dS (qAa dB (qAa dZ (qAa (dO 3) dNil))))))))))) dNil))
def zaa_db:=(qAa (qBb .node) (qAa (qBb .str) (qAa (qBb .str) (qAa (qBb .str) dNil))))
def zaa_c:CS:=mkC zaa_da zaa_db (fun x y=>zaa_s (⟨y.1,x.1.2.1,x.1.2.2.1,x.1.2.2.2.1,x.1.2.2.2.2.1,y.2.1,x.1.2.2.2.2.2.2.1,x.1.2.2.2.2.2.2.2.1,x.1.2.2.2.2.2.2.2.2.1,(⟨x.1.2.2.2.2.2.2.2.2.2.1,x.1.2.2.2.2.2.2.2.2.2.2.1⟩:qHe),(⟨x.1.2.2.2.2.2.2.2.2.2.2.2.1,x.1.2.2.2.2.2.2.2.2.2.2.2.2.1⟩:qHe),(⟨x.1.2.2.2.2.2.2.2.2.2.2.2.2.2.1,x.1.2.2.2.2.2.2.2.2.2.2.2.2.2.2.1⟩:qHe)⟩:qHb) (⟨y.2.2.1,x.2.1.2.1,x.2.1.2.2.1,x.2.1.2.2.2.1,x.2.1.2.2.2.2.1,x.2.1.2.2.2.2.2.1,x.2.1.2.2.2.2.2.2.1,x.2.1.2.2.2.2.2.2.2.1,y.2.2.2.1⟩:qHw)) (fun x y r=>.c (.o (.vI r))) fun x y r=>[.view .node y.1,.view .str y.2.1,.view .str y.2.2.1,.view .str y.2.2.2.1]
theorem zaa_val:qAn Tryd.prog 34 zaa_c:=qAo zaa_chk 11 zaa_Gok 4 (fun x=>Nat.le_of_ble_eq_true rfl) (fun y=>rfl) zaa_subs fun x y=>by
 simp only [zaa_s,-eq_self,qAc,qAg,obA,obS,slL,slR,qAd];kernel_rfl
def zaa_w:CQ:=qBx [(0,some 0,some (.node,46)),(0,some 5,some (.str,9)),(1,some 0,some (.str,9)),(1,some 8,some (.str,9))] (qCv [false,false,false,false] zaa_c)
theorem zaa_ok:qAe Tryd.prog 34 zaa_w:=qB4 zaa_val
def zab_q:IQ:=(.seq (rg 6 [oP 3 (.box 51 15 t0),oP 6 (.mv (vI 0))]) (.seq (.block 0 (.seq (rg 7 [oM 8 t1,oP 9 (.bi .lss t8 (vI 0)),oM 10 t9,oE 11 (.mv t1) 10,oE 12 (.bi .gtr t11 (vI 600)) 10,oP 13 (.pick t10 vT t12),oM 7 t13]) (.cond t7 (.seq (rg 6 [oP 6 (.mv (vI 12))]) (.cn [6] .ret)) (.seq (.reg 14 (some [0,1,2,3,4,5,6,8,9,10,7,11,12,13,14,15,16,17,18,19,20,21,22,23,24,25,26]) [oP 15 (.faddr 9 t3),oP 16 (.faddr 0 t15),oP 17 (.load none t16),oM 18 t17,oF 19 (.mv t2) 18,oF 20 (.mv t1) 18,oF 21 (.un .neg t20) 18,oF 23 (.faddr 9 t3) 18,oF 24 (.faddr 1 t23) 18,oF 25 (.load none t24) 18,oF 22 (.call 62 [t19,t21]) 18,oF 26 (.bi .geq t22 t25) 18,oP 27 (.pick t18 t26 vF),oM 28 t27,oF 29 (.mv t2) 28,oF 30 (.mv t1) 28,oF 31 (.bi .add (.v (.int .i64 (-9223372036854775808))) t30) 28,oF 32 (.bi .lss t29 t31) 28,oF 33 (.mv t32) 28,oF 34 (.faddr 9 t3) 33,oF 35 (.faddr 1 t34) 33,oF 36 (.load none t35) 33,oF 37 (.bi .eql t36 (.v (.int .i64 (-9223372036854775808)))) 33,oF 38 (.pick t33 t37 vF) 28,oF 39 (.un .not t38) 28,oP 40 (.pick t28 t39 vF),oM 14 t40]) (.cond t14 (.seq (rg 6 [oP 6 (.mv (vI 134))]) (.cn [6] .ret)) (.seq (rg 41 [oP 42 (.faddr 11 t3),oP 43 (.faddr 0 t42),oP 44 (.load none t43),oM 45 t44,oF 46 (.mv t2) 45,oF 47 (.faddr 11 t3) 45,oF 48 (.faddr 1 t47) 45,oF 49 (.load none t48) 45,oF 50 (.mv t1) 45,oF 51 (.un .neg t50) 45,oF 52 (.call 62 [t49,t51]) 45,oF 53 (.bi .lss t46 t52) 45,oP 54 (.pick t45 t53 vF),oM 41 t54]) (.cond t41 (.seq (rg 6 [oP 6 (.mv (vI 135))]) (.cn [6] .ret)) (.seq (rg 55 [oP 56 (.faddr 13 t3),oP 57 (.faddr 0 t56),oP 58 (.load none t57),oM 59 t58,oF 60 (.mv t2) 59,oF 61 (.faddr 13 t3) 59,oF 62 (.faddr 1 t61) 59,oF 63 (.load none t62) 59,oF 64 (.mv t1) 59,oF 65 (.un .neg t64) 59,oF 66 (.call 62 [t63,t65]) 59,oF 67 (.bi .lss t60 t66) 59,oP 68 (.pick t59 t67 vF),oM 55 t68]) (.cond t55 (.seq (rg 6 [oP 6 (.mv (vI 136))]) (.cn [6] .ret)) .skip))))))))) (.seq (rg 6 [oP 6 (.mv (vI 0))]) (.cn [6] .ret))))
theorem zab_chk:chk Tryd.prog 35 []=some (zab_q.erase,[.tmp 6],69):=by kernel_rfl
def zab_s (c:qHb) (leeway now:Int):Option Int :=
 bif ((decide (leeway<(0:Int))) || (decide ((600:Int)<leeway))) then (
  some (12:Int))
 else (
  gd (c.exp_.has=true→qAf (0 - leeway)) <|
  (zaf_s now (0 - leeway)).bind fun r1 =>
  gd ((c.exp_.has && (decide (c.exp_.at_≤r1)))=true→qAf ((-9223372036854775808:Int)+leeway)) <|
  bif ((c.exp_.has && (decide (c.exp_.at_≤r1))) && (!((decide (now<((-9223372036854775808:Int)+leeway))) && (decide (c.exp_.at_=(-9223372036854775808:Int)))))) then (
   some (134:Int))
  else (
   gd (c.nbf.has=true→qAf (0 - leeway)) <|
   bif c.nbf.has then (
    (zaf_s c.nbf.at_ (0 - leeway)).bind fun r2 =>
    bif decide (now<r2) then (
     some (135:Int))
    else (
     gd (c.iat.has=true→qAf (0 - leeway)) <|
     bif c.iat.has then (
      (zaf_s c.iat.at_ (0 - leeway)).bind fun r3 =>
      bif decide (now<r3) then (
       some (136:Int))
      else (
       some (0:Int)))
     else (
      some (0:Int))))
   else (
    gd (c.iat.has=true→qAf (0 - leeway)) <|
    bif c.iat.has then (
     (zaf_s c.iat.at_ (0 - leeway)).bind fun r4 =>
     bif decide (now<r4) then (
      some (136:Int))
     else (
      some (0:Int)))
    else (
     some (0:Int)))))
def zab_G:Nat→Option CQ:=tblQ [(62,zaf_w)]
theorem zab_Gok:∀f C,zab_G f=some C→qAe Tryd.prog f C:=qAj ⟨zaf_ok,tV⟩
def zab_L:Nat→SubQ:=tblL []
theorem zab_subs:qAq zab_L zab_G 2 7 69 zab_q:=qAl (show qAs zab_L zab_G 2 7 69 [] from tV)
def zab_da:=(qAa (dVC (dCA zDJW3)) (qAa (dVC (dCO dZ)) (qAa (dVC (dCO dZ)) dNil)))
def zab_db:=(qAa (qBb .node) (qAa (qBb .str) dNil))
def zab_c:CS:=mkC zab_da zab_db (fun x y=>zab_s (⟨y.1,x.1.2.1,x.1.2.2.1,x.1.2.2.2.1,x.1.2.2.2.2.1,y.2.1,x.1.2.2.2.2.2.2.1,x.1.2.2.2.2.2.2.2.1,x.1.2.2.2.2.2.2.2.2.1,(⟨x.1.2.2.2.2.2.2.2.2.2.1,x.1.2.2.2.2.2.2.2.2.2.2.1⟩:qHe),(⟨x.1.2.2.2.2.2.2.2.2.2.2.2.1,x.1.2.2.2.2.2.2.2.2.2.2.2.2.1⟩:qHe),(⟨x.1.2.2.2.2.2.2.2.2.2.2.2.2.2.1,x.1.2.2.2.2.2.2.2.2.2.2.2.2.2.2.1⟩:qHe)⟩:qHb) x.2.1 x.2.2.1) (fun x y r=>.c (.o (.vI r))) fun x y r=>[.view .node y.1,.view .str y.2.1]
theorem zab_val:qAn Tryd.prog 35 zab_c:=qAo zab_chk 7 zab_Gok 2 (fun x=>Nat.le_of_ble_eq_true rfl) (fun y=>rfl) zab_subs fun x y=>by
 simp only [zab_s,-eq_self,qAc,qAg,obA,obS,slL,slR,qAd];kernel_rfl
def zab_w:CQ:=qBx [(0,some 0,some (.node,46)),(0,some 5,some (.str,9))] (qCv [false,false] zab_c)
theorem zab_ok:qAe Tryd.prog 35 zab_w:=qB4 zab_val
def zbt_q:IQ:=(.seq (rg 0 [oP 0 (.mv vF)]) (.seq (rg 2 [oP 7 (.call 23 [(.v (.string ⟨#[123,34,105,115,115,34,58,34,97,34,44,34,97,117,100,34,58,91,34,120,34,44,34,121,34,93,44,34,101,120,112,34,58,49,48,44,34,110,34,58,49,125]⟩))]),oM 6 t7,oP 8 (.extract t6 0),oP 9 (.extract t6 1),oP 1 (.alloc 51 [.slice none 0 0,.string ⟨#[]⟩,.bool false,.string ⟨#[]⟩,.bool false,.slice none 0 0,.bool false,.string ⟨#[]⟩,.bool false,.bool false,.int .i64 0,.bool false,.int .i64 0,.bool false,.int .i64 0]),oN (.store 15 t1 t8),oM 2 t9]) (.seq (rg 4 [oP 11 (.load (some 15) t1),oP 12 (.call 36 [t11,(vI 5)]),oM 10 t12,oP 13 (.extract t10 0),oP 14 (.extract t10 1),oP 3 (.alloc 68 [.bool false,.int .i64 0,.int .i64 0]),oN (.store 3 t3 t13),oM 4 t14]) (.seq (rg 0 [oP 15 (.bslice 9 1 1 [.string ⟨#[]⟩] [(0,(.v (.string ⟨#[110]⟩)))]),oP 16 (.build [.slice none 0 0,.string ⟨#[]⟩,.bool false,.string ⟨#[]⟩,.bool false,.string ⟨#[]⟩,.bool false,.int .i64 0,.slice none 0 0] [(1,1,(.v (.string ⟨#[97]⟩))),(2,1,vT),(3,1,(.v (.string ⟨#[121]⟩))),(4,1,vT),(8,1,t15)]),oP 5 (.alloc 31 [.slice none 0 0,.string ⟨#[]⟩,.bool false,.string ⟨#[]⟩,.bool false,.string ⟨#[]⟩,.bool false,.int .i64 0,.slice none 0 0]),oN (.store 9 t5 t16)]) (.seq (.seq (rg 43 [oM 17 t2,oP 18 (.bi .neq t17 (vI 0)),oM 19 t18,oE 20 (.mv t4) 19,oE 21 (.bi .neq t20 (vI 0)) 19,oP 22 (.pick t19 vT t21),oM 23 t22,oE 24 (.faddr 5 t1) 23,oE 25 (.load none t24) 23,oE 26 (.len t25) 23,oE 27 (.bi .neq t26 (vI 2)) 23,oP 28 (.pick t23 vT t27),oM 29 t28,oE 30 (.faddr 9 t1) 29,oE 31 (.faddr 0 t30) 29,oE 32 (.load none t31) 29,oE 33 (.un .not t32) 29,oP 34 (.pick t29 vT t33),oM 35 t34,oE 36 (.faddr 0 t3) 35,oE 37 (.load none t36) 35,oP 38 (.pick t35 vT t37),oM 39 t38,oE 40 (.faddr 2 t3) 39,oE 41 (.load none t40) 39,oE 42 (.bi .neq t41 (vI 14)) 39,oP 43 (.pick t39 vT t42)]) (.cond t43 (.seq (rg 0 [oP 0 (.mv vF)]) (.cn [0] .ret)) .skip)) (.seq (rg 0 [oP 44 (.load (some 15) t1),oP 45 (.load (some 9) t5),oP 46 (.call 34 [t44,t45]),oP 47 (.bi .eql t46 (vI 0)),oM 48 t47,oF 49 (.load (some 15) t1) 48,oF 50 (.build [.slice none 0 0,.string ⟨#[]⟩,.bool false,.string ⟨#[]⟩,.bool false,.string ⟨#[]⟩,.bool false,.int .i64 0,.slice none 0 0] []) 48,oF 51 (.call 34 [t49,t50]) 48,oF 52 (.bi .eql t51 (vI 133)) 48,oP 53 (.pick t48 t52 vF),oM 54 t53,oF 55 (.load (some 15) t1) 54,oF 56 (.call 35 [t55,(vI 5),(vI 14)]) 54,oF 57 (.bi .eql t56 (vI 0)) 54,oP 58 (.pick t54 t57 vF),oM 59 t58,oF 60 (.load (some 15) t1) 59,oF 61 (.call 35 [t60,(vI 5),(vI 15)]) 59,oF 62 (.bi .eql t61 (vI 134)) 59,oP 63 (.pick t59 t62 vF),oM 0 t63]) (.cn [0] .ret)))))))
theorem zbt_chk:chk Tryd.prog 26 []=some (zbt_q.erase,[.tmp 0],64):=by kernel_rfl
def zbt_s:Option Bool :=
 (qGu (⟨#[123,34,105,115,115,34,58,34,97,34,44,34,97,117,100,34,58,91,34,120,34,44,34,121,34,93,44,34,101,120,112,34,58,49,48,44,34,110,34,58,49,125]⟩:BA)).bind fun r1 =>
 (zac_s r1.1 (5:Int)).bind fun r2 =>
 bif ((((((!decide (r1.2=(0:Int))) || (!decide (r2.2=(0:Int)))) || (!decide ((r1.1.aud.length:Int)=(2:Int)))) || (!r1.1.exp_.has)) || r2.1.empty) || (!decide (r2.1.to_=(14:Int)))) then (
  some false)
 else (
  (zaa_s r1.1 (⟨[],(⟨#[97]⟩:BA),true,(⟨#[121]⟩:BA),true,(⟨#[]⟩:BA),false,(0:Int),[(⟨#[110]⟩:BA)]⟩:qHw)).bind fun r3 =>
  bif decide (r3=(0:Int)) then (
   (zaa_s r1.1 (⟨[],(⟨#[]⟩:BA),false,(⟨#[]⟩:BA),false,(⟨#[]⟩:BA),false,(0:Int),[]⟩:qHw)).bind fun r4 =>
   bif decide (r4=(133:Int)) then (
    (zab_s r1.1 (5:Int) (14:Int)).bind fun r5 =>
    bif decide (r5=(0:Int)) then (
     (zab_s r1.1 (5:Int) (15:Int)).bind fun r6 =>
     some (decide (r6=(134:Int))))
    else (
     some false))
   else (
    some false))
  else (
   some false))
def zbt_G:Nat→Option CQ:=tblQ [(23,zad_w),(36,zac_w),(34,zaa_w),(35,zab_w)]
theorem zbt_Gok:∀f C,zbt_G f=some C→qAe Tryd.prog f C:=qAj ⟨zad_ok,zac_ok,zaa_ok,zab_ok,tV⟩
def zbt_L:Nat→SubQ:=tblL []
theorem zbt_subs:qAq zbt_L zbt_G 0 6 64 zbt_q:=qAl (show qAs zbt_L zbt_G 0 6 64 [] from tV)
def zbt_da:=(dNil:Dec Unit (List SV))
def zbt_db:=(dNil:Dec Unit (List SB))
def zbt_c:CS:=mkC zbt_da zbt_db (fun x y=>zbt_s) (fun x y r=>.c (.o (.vB r))) fun x y r=>[]
theorem zbt_val:qAn Tryd.prog 26 zbt_c:=qAo zbt_chk 6 zbt_Gok 0 (fun x=>Nat.le_of_ble_eq_true rfl) (fun y=>rfl) zbt_subs fun x y=>by
 simp only [zbt_s,-eq_self,qAc,qAg,obA,obS,slL,slR,qAd];kernel_rfl
def zbt_w:CQ:=qCv [] zbt_c
theorem zbt_ok:qAe Tryd.prog 26 zbt_w:=qA1 zbt_val
def zcd_q:IQ:=(.join [(2000000,some 0,.u8,0)] [] (.seq (rg 6 (rF 2 t0 0++[oP 6 (.ext (.ptrEq false) [t5,(.v (.pointer none))])])) (.cond t6 (rg 0 ([oM 7 t0,oM 8 t0,oP 9 (.ext .toUns [t8]),oP 10 (.ext .noEsc [t9]),oP 11 (.ext (.fromUns 111 2) [t10])]++rS 12 t7 0 t11)) (.seq (rg 19 (rF 14 t0 0++[oM 18 t0,oP 19 (.ext (.ptrEq true) [t17,t18])])) (.cond t19 .bad .skip)))))
theorem zcd_chk:chk Tryd.prog 112 []=some (zcd_q.erase,[],20):=by kernel_rfl
def zcd_s (b:qG5):Option qG5 :=
 bif (!b.addr) then (
  some (⟨true,b.buf⟩:qG5))
 else (
  bif (!b.addr) then (
   none)
  else (
   some b))
def zcd_G:Nat→Option CQ:=tblQ []
theorem zcd_Gok:∀f C,zcd_G f=some C→qAe Tryd.prog f C:=fun f C h=>by cases h
def zcd_L:Nat→SubQ:=tblL []
theorem zcd_subs:qAq zcd_L zcd_G 2 2 20 zcd_q:=qAl (show qAs zcd_L zcd_G 2 2 20 [] from tV)
def zcd_da:=(qAa (dVC (dCO (dH 0 0))) dNil)
def zDJW4:=(qCn 111 (qAa (dP 0 0) (qAa (dO 1) dNil)))
def zcd_db:=(qAa zDJW4 (qAa (qBb .u8) dNil))
def zcd_c:CS:=mkC zcd_da zcd_db (fun x y=>zcd_s (⟨y.1.1,y.2.1⟩:qG5)) (fun x y r=>.tup []) fun x y r=>[.cells 111 [.opt r.addr 0 0,.own 1],.view .u8 y.2.1]
theorem zcd_val:qAn Tryd.prog 112 zcd_c:=qAo zcd_chk 2 zcd_Gok 2 (fun x=>Nat.le_of_ble_eq_true rfl) (fun y=>rfl) zcd_subs fun x y=>by
 simp only [zcd_s,-eq_self,qAc,qAg,obA,obS,slL,slR,qAd];kernel_rfl
def zcd_w:CQ:=qBx [(0,some 0,none),(0,some 1,some (.u8,5))] (qCo [true,false] zcd_c)
theorem zcd_ok:qAe Tryd.prog 112 zcd_w:=qAv zcd_val
def zcc_q:IQ:=(.seq (rg 5 [oP 4 (.mv (vI 0)),oP 5 (.mv (.v (.nilIface)))]) (.seq (rg 7 [oM 6 t0,oP 7 (.call 112 [t6])]) (.seq (rg 0 ([oM 8 t0]++rF 9 t0 1++[oM 13 t1,oP 14 (.ext (.appStr 5) [t12,t13])]++rS 15 t8 1 t14)) (.seq (rg 5 [oM 17 t1,oP 18 (.lenS t17),oM 4 t18,oP 5 (.mv (.v (.nilIface)))]) (.canon [(2000000,some 0,.u8,0)] [4,5] .ret)))))
theorem zcc_chk:chk Tryd.prog 90 []=some (zcc_q.erase,[.tmp 4,.tmp 5],19):=by kernel_rfl
def zcc_s (b:qG5) (s:BA):Option (qG5 × Int × Unit) :=
 (zcd_s b).bind fun r3 =>
 gd (b.buf.length+s.size≤140737488355328) <|
 some ((⟨r3.addr,(b.buf++(qAi s))⟩:qG5),(s.size:Int),())
def zcc_G:Nat→Option CQ:=tblQ [(112,zcd_w)]
theorem zcc_Gok:∀f C,zcc_G f=some C→qAe Tryd.prog f C:=qAj ⟨zcd_ok,tV⟩
def zcc_L:Nat→SubQ:=tblL []
theorem zcc_subs:qAq zcc_L zcc_G 2 6 19 zcc_q:=qAl (show qAs zcc_L zcc_G 2 6 19 [] from tV)
def zcc_da:=(qAa (dVC (dCO (dH 0 0))) (qAa (dVC (dCO dS)) dNil))
def zcc_db:=(qAa zDJW4 (qAa (dRow .u8 5) dNil))
def zcc_c:CS:=mkC zcc_da zcc_db (fun x y=>zcc_s (⟨y.1.1,y.2.1⟩:qG5) x.2.1) (fun x y r=>.tup [.o (.vI r.2.1),.o (.val (.nilIface))]) fun x y r=>[.cells 111 [.opt r.1.addr 0 0,.own 2],.dead,.row .u8 5 r.1.buf]
theorem zcc_val:qAn Tryd.prog 90 zcc_c:=qAo zcc_chk 6 zcc_Gok 2 (fun x=>Nat.le_of_ble_eq_true rfl) (fun y=>rfl) zcc_subs fun x y=>by
 simp only [zcc_s,-eq_self,qAc,qAg,obA,obS,slL,slR,qAd];kernel_rfl
def zcc_w:CQ:=qBx [(0,some 0,none),(0,some 1,some (.u8,5))] (qCo [true,true] zcc_c)
theorem zcc_ok:qAe Tryd.prog 90 zcc_w:=qAv zcc_val
def zcb_q:IQ:=(.seq (rg 4 [oP 4 (.mv (.v (.nilIface)))]) (.seq (rg 6 [oM 5 t0,oP 6 (.call 112 [t5])]) (.seq (rg 0 ([oM 7 t0]++rF 8 t0 1++[oM 12 t1,oP 13 (.bslice 5 1 1 [.int .u8 0] [(0,t12)]),oP 14 (.append 5 1 1 [.int .u8 0] t11 t13)]++rS 15 t7 1 t14)) (.seq (rg 4 [oP 4 (.mv (.v (.nilIface)))]) (.canon [(2000000,some 0,.u8,0)] [4] .ret)))))
theorem zcb_chk:chk Tryd.prog 92 []=some (zcb_q.erase,[.tmp 4],17):=by kernel_rfl
def zcb_s (b:qG5) (c:Int):Option (qG5 × Unit) :=
 (zcd_s b).bind fun r3 =>
 gd (b.buf.length+([c]:List Int).length≤9223372036854775807∧(b.buf.length+([c]:List Int).length)*1≤140737488355328) <|
 some ((⟨r3.addr,(b.buf++[c])⟩:qG5),())
def zcb_G:Nat→Option CQ:=tblQ [(112,zcd_w)]
theorem zcb_Gok:∀f C,zcb_G f=some C→qAe Tryd.prog f C:=qAj ⟨zcd_ok,tV⟩
def zcb_L:Nat→SubQ:=tblL []
theorem zcb_subs:qAq zcb_L zcb_G 2 5 17 zcb_q:=qAl (show qAs zcb_L zcb_G 2 5 17 [] from tV)
def zDJW12:=(qAa (dVC (dCO (dI .u8))) dNil)
def zcb_da:=(qAa (dVC (dCO (dH 0 0))) zDJW12)
def zcb_db:=(qAa zDJW4 (qAa (dRow .u8 5) dNil))
def zcb_c:CS:=mkC zcb_da zcb_db (fun x y=>zcb_s (⟨y.1.1,y.2.1⟩:qG5) x.2.1) (fun x y r=>.c (.o (.val (.nilIface)))) fun x y r=>[.cells 111 [.opt r.1.addr 0 0,.own 2],.dead,.row .u8 5 r.1.buf]
theorem zcb_val:qAn Tryd.prog 92 zcb_c:=qAo zcb_chk 5 zcb_Gok 2 (fun x=>Nat.le_of_ble_eq_true rfl) (fun y=>rfl) zcb_subs fun x y=>by
 simp only [zcb_s,-eq_self,qAc,qAg,obA,obS,slL,slR,qAd];kernel_rfl
def zcb_w:CQ:=qBx [(0,some 0,none),(0,some 1,some (.u8,5))] (qCo [true,true] zcb_c)
theorem zcb_ok:qAe Tryd.prog 92 zcb_w:=qAv zcb_val
def zan_q:IQ:=(.seq (rg 4 [oP 4 (.mv (vI 0))]) (.seq (rg 4 [oM 5 t0,oM 6 t1,oP 7 (.ext .idxByte [t5,t6]),oM 4 t7]) (.cn [4] .ret)))
theorem zan_chk:chk Tryd.prog 125 []=some (zan_q.erase,[.tmp 4],8):=by kernel_rfl
def zan_s (s:BA) (c:Int):Option Int :=
 some (Lib.indexByte s.data.toList (Int.toNat c).toUInt8)
def zan_G:Nat→Option CQ:=tblQ []
theorem zan_Gok:∀f C,zan_G f=some C→qAe Tryd.prog f C:=fun f C h=>by cases h
def zan_L:Nat→SubQ:=tblL []
theorem zan_subs:qAq zan_L zan_G 0 5 8 zan_q:=qAl (show qAs zan_L zan_G 0 5 8 [] from tV)
def zan_da:=(qAa (dVC (dCO dS)) zDJW12)
def zan_db:=(dNil:Dec Unit (List SB))
def zan_c:CS:=mkC zan_da zan_db (fun x y=>zan_s x.1 x.2.1) (fun x y r=>.c (.o (.vI r))) fun x y r=>[]
theorem zan_val:qAn Tryd.prog 125 zan_c:=qAo zan_chk 5 zan_Gok 0 (fun x=>Nat.le_of_ble_eq_true rfl) (fun y=>rfl) zan_subs fun x y=>by
 simp only [zan_s,-eq_self,qAc,qAg,obA,obS,slL,slR,qAd];kernel_rfl
def zan_w:CQ:=qCv [] zan_c
theorem zan_ok:qAe Tryd.prog 125 zan_w:=qA1 zan_val
def zcf_q:IQ:=(.seq (rg 4 [oP 4 (.mv (vI 0))]) (.seq (rg 4 [oM 5 t0,oM 6 t1,oP 7 (.call 125 [t5,t6]),oM 4 t7]) (.cn [4] .ret)))
theorem zcf_chk:chk Tryd.prog 113 []=some (zcf_q.erase,[.tmp 4],8):=by kernel_rfl
def zcf_s (s:BA) (c:Int):Option Int :=
 (zan_s s c).bind fun r1 =>
 some r1
def zcf_G:Nat→Option CQ:=tblQ [(125,zan_w)]
theorem zcf_Gok:∀f C,zcf_G f=some C→qAe Tryd.prog f C:=qAj ⟨zan_ok,tV⟩
def zcf_L:Nat→SubQ:=tblL []
theorem zcf_subs:qAq zcf_L zcf_G 0 5 8 zcf_q:=qAl (show qAs zcf_L zcf_G 0 5 8 [] from tV)
def zcf_da:=(qAa (dVC (dCO dS)) zDJW12)
def zcf_db:=(dNil:Dec Unit (List SB))
def zcf_c:CS:=mkC zcf_da zcf_db (fun x y=>zcf_s x.1 x.2.1) (fun x y r=>.c (.o (.vI r))) fun x y r=>[]
theorem zcf_val:qAn Tryd.prog 113 zcf_c:=qAo zcf_chk 5 zcf_Gok 0 (fun x=>Nat.le_of_ble_eq_true rfl) (fun y=>rfl) zcf_subs fun x y=>by
 simp only [zcf_s,-eq_self,qAc,qAg,obA,obS,slL,slR,qAd];kernel_rfl
def zcf_w:CQ:=qCv [] zcf_c
theorem zcf_ok:qAe Tryd.prog 113 zcf_w:=qA1 zcf_val
def zaw_b0:IQ:=(.loop [0,1,4,11,12] (.seq (rg 13 [oP 13 (.bi .lss t12 t11)]) (.seq (.cond t13 .skip (.cn [0,1,4] (.exit 0))) (.seq (.block 1 (.seq (rg 5 [oM 14 t12,oM 5 t14]) (.seq (rg 6 [oM 15 t1,oM 16 t5,oP 17 (.index t15 t16),oM 6 t17]) (.seq (.seq (rg 27 [oM 18 t6,oP 19 (.bi .geq t18 (vC 32)),oM 20 t19,oF 21 (.mv t6) 20,oF 22 (.bi .neq t21 (vC 34)) 20,oP 23 (.pick t20 t22 vF),oM 24 t23,oF 25 (.mv t6) 24,oF 26 (.bi .neq t25 (vC 92)) 24,oP 27 (.pick t24 t26 vF)]) (.cond t27 (.exit 1) .skip)) (.seq (rg 33 [oM 28 t0,oM 29 t1,oM 30 t4,oM 31 t5,oP 32 (.sub none t29 (some t30) (some t31)),oP 33 (.call 90 [t28,t32])]) (.seq (rg 4 [oM 34 t5,oP 35 (.bi .add t34 (vI 1)),oM 4 t35]) (.seq (rg 7 [oM 36 t6,oP 37 (.call 113 [(.v (.string ⟨#[8,12,10,13,9,34,92]⟩)),t36]),oM 7 t37]) (.seq (rg 39 [oM 38 t7,oP 39 (.bi .geq t38 (vI 0))]) (.cond t39 (rg 46 [oM 40 t0,oM 41 t7,oM 42 t7,oP 43 (.bi .add t42 (vI 1)),oP 44 (.sub none (.v (.string ⟨#[98,102,110,114,116,34,92]⟩)) (some t41) (some t43)),oP 45 (.bi .add (.v (.string ⟨#[92]⟩)) t44),oP 46 (.call 90 [t40,t45])]) (.reg 62 (some [0,1,2,3,4,5,6,7,8,9,10,11,12,13,14,15]) [oM 47 t0,oM 48 t6,oP 49 (.bi .shr t48 (.v (.int .u64 4))),oM 50 t6,oP 51 (.bi .shr t50 (.v (.int .u64 4))),oP 52 (.bi .add t51 (vC 1)),oP 53 (.sub none (.v (.string ⟨#[48,49,50,51,52,53,54,55,56,57,97,98,99,100,101,102]⟩)) (some t49) (some t52)),oP 54 (.bi .add (.v (.string ⟨#[92,117,48,48]⟩)) t53),oM 55 t6,oP 56 (.bi .and t55 (vC 15)),oM 57 t6,oP 58 (.bi .and t57 (vC 15)),oP 59 (.bi .add t58 (vC 1)),oP 60 (.sub none (.v (.string ⟨#[48,49,50,51,52,53,54,55,56,57,97,98,99,100,101,102]⟩)) (some t56) (some t59)),oP 61 (.bi .add t54 t60),oP 62 (.callL 90 [t47,t61])])))))))))) (rg 12 [oP 63 (.bi .add t12 (vI 1)),oM 12 t63])))))
def zaw_q:IQ:=(.join [(2000000,some 0,.u8,0)] [] (.seq (rg 9 [oM 8 t0,oP 9 (.call 92 [t8,(vC 34)])]) (.seq (rg 4 [oP 4 (.mv (vI 0))]) (.seq (.seq (rg 12 [oM 10 t1,oP 11 (.lenS t10),oP 12 (.mv (vI 0))]) (.block 0 (.cn [0,1,4,11,12] (.sub 0 zaw_b0)))) (rg 69 [oM 64 t0,oM 65 t1,oM 66 t4,oP 67 (.sub none t65 (some t66) none),oP 68 (.bi .add t67 (.v (.string ⟨#[34]⟩))),oP 69 (.call 90 [t64,t68])])))))
theorem zaw_chk:chk Tryd.prog 91 [62]=some (zaw_q.erase,[],70):=by kernel_rfl
def qD1 (s:BA) (from_ x11_ x12_:Int) (b_addr:Bool) (b_buf:List Int):Option ((Int × Int × Bool × (List Int)) ⊕ (Int × Bool × (List Int))) :=
 bif decide (x12_<x11_) then (
  gd (0≤x12_∧x12_<s.size) <|
  bif (((decide ((32:Int)≤(bAt s x12_))) && (!decide ((bAt s x12_)=(34:Int)))) && (!decide ((bAt s x12_)=(92:Int)))) then (
   gd (qAf (x12_+(1:Int))) <|
   some (.inl (from_,(x12_+(1:Int)),b_addr,b_buf)))
  else (
   gd (0≤from_∧from_≤x12_∧x12_≤s.size) <|
   (zcc_s (⟨b_addr,b_buf⟩:qG5) (s.extract (Int.toNat from_) (Int.toNat x12_))).bind fun r22 =>
   gd (qAf (x12_+(1:Int))) <|
   (zcf_s (⟨#[8,12,10,13,9,34,92]⟩:BA) (bAt s x12_)).bind fun r23 =>
   bif decide ((0:Int)≤r23) then (
    gd (qAf (r23+(1:Int))) <|
    gd (0≤r23∧r23≤(r23+(1:Int))∧(r23+(1:Int))≤(⟨#[98,102,110,114,116,34,92]⟩:BA).size) <|
    gd ((⟨#[92]⟩:BA).size+((⟨#[98,102,110,114,116,34,92]⟩:BA).extract (Int.toNat r23) (Int.toNat (r23+(1:Int)))).size≤9223372036854775807) <|
    (zcc_s r22.1 ((⟨#[92]⟩:BA)++((⟨#[98,102,110,114,116,34,92]⟩:BA).extract (Int.toNat r23) (Int.toNat (r23+(1:Int)))))).bind fun r24 =>
    gd (qAf (x12_+(1:Int))) <|
    some (.inl ((x12_+(1:Int)),(x12_+(1:Int)),r24.1.addr,r24.1.buf)))
   else (
    gd (0≤(4:Int)) <|
    gd (0≤(4:Int)) <|
    gd (0≤((bAt s x12_) / 16)∧((bAt s x12_) / 16)≤((((bAt s x12_) / 16)+(1:Int)) % 256)∧((((bAt s x12_) / 16)+(1:Int)) % 256)≤(⟨#[48,49,50,51,52,53,54,55,56,57,97,98,99,100,101,102]⟩:BA).size) <|
    gd ((⟨#[92,117,48,48]⟩:BA).size+((⟨#[48,49,50,51,52,53,54,55,56,57,97,98,99,100,101,102]⟩:BA).extract (Int.toNat ((bAt s x12_) / 16)) (Int.toNat ((((bAt s x12_) / 16)+(1:Int)) % 256))).size≤9223372036854775807) <|
    gd (0≤(qBg .u8 (bAt s x12_) (15:Int))∧(qBg .u8 (bAt s x12_) (15:Int))≤(((qBg .u8 (bAt s x12_) (15:Int))+(1:Int)) % 256)∧(((qBg .u8 (bAt s x12_) (15:Int))+(1:Int)) % 256)≤(⟨#[48,49,50,51,52,53,54,55,56,57,97,98,99,100,101,102]⟩:BA).size) <|
    gd (((⟨#[92,117,48,48]⟩:BA)++((⟨#[48,49,50,51,52,53,54,55,56,57,97,98,99,100,101,102]⟩:BA).extract (Int.toNat ((bAt s x12_) / 16)) (Int.toNat ((((bAt s x12_) / 16)+(1:Int)) % 256)))).size+((⟨#[48,49,50,51,52,53,54,55,56,57,97,98,99,100,101,102]⟩:BA).extract (Int.toNat (qBg .u8 (bAt s x12_) (15:Int))) (Int.toNat (((qBg .u8 (bAt s x12_) (15:Int))+(1:Int)) % 256))).size≤9223372036854775807) <|
    (zcc_s r22.1 (((⟨#[92,117,48,48]⟩:BA)++((⟨#[48,49,50,51,52,53,54,55,56,57,97,98,99,100,101,102]⟩:BA).extract (Int.toNat ((bAt s x12_) / 16)) (Int.toNat ((((bAt s x12_) / 16)+(1:Int)) % 256))))++((⟨#[48,49,50,51,52,53,54,55,56,57,97,98,99,100,101,102]⟩:BA).extract (Int.toNat (qBg .u8 (bAt s x12_) (15:Int))) (Int.toNat (((qBg .u8 (bAt s x12_) (15:Int))+(1:Int)) % 256))))).bind fun r25 =>
    gd (qAf (x12_+(1:Int))) <|
    some (.inl ((x12_+(1:Int)),(x12_+(1:Int)),r25.1.addr,r25.1.buf)))))
 else (
  some (.inr (from_,b_addr,b_buf)))
def zaw_p0 (s:BA) (from_ x11_ x12_:Int) (b_addr:Bool) (b_buf:List Int):Option (Int × Bool × (List Int)) :=
 qBn (fun x:(Int × Int × Bool × (List Int))=>qD1 s x.1 x11_ x.2.1 x.2.2.1 x.2.2.2) (from_,x12_,b_addr,b_buf)
def zaw_s (b:qG5) (s:BA):Option qG5 :=
 (zcb_s b (34:Int)).bind fun r21 =>
 (zaw_p0 s (0:Int) (s.size:Int) (0:Int) r21.1.addr r21.1.buf).bind fun o26 =>
 gd (0≤o26.1∧o26.1≤(s.size:Int)∧(s.size:Int)≤s.size) <|
 gd ((s.extract (Int.toNat o26.1) s.size).size+(⟨#[34]⟩:BA).size≤9223372036854775807) <|
 (zcc_s (⟨o26.2.1,o26.2.2⟩:qG5) ((s.extract (Int.toNat o26.1) s.size)++(⟨#[34]⟩:BA))).bind fun r27 =>
 some r27.1
def zaw_G:Nat→Option CQ:=tblQ [(92,zcb_w),(90,zcc_w),(113,zcf_w)]
theorem zaw_Gok:∀f C,zaw_G f=some C→qAe Tryd.prog f C:=qAj ⟨zcb_ok,zcc_ok,zcf_ok,tV⟩
def zDJW11:=(qCn 111 (qAa (dP 0 0) (qAa (dO 2) dNil)))
def zaw_d0:=(dQS (qAa (dSO 0 (dH 0 0)) (qAa (dSO 1 dS) (qAa (dSO 4 dZ) (qAa (dSO 11 dZ) (qAa (dSO 12 dZ) dNil))))) (qAa zDJW11 (qAa dDead (qAa (dRow .u8 5) dNil))))
def zaw_l0:SubQ:=mkL zaw_d0 (fun x=>zaw_p0 x.1.2.1 x.1.2.2.1 x.1.2.2.2.1 x.1.2.2.2.2.1 x.2.1.1 x.2.2.2.1) fun x r R kn kx kr=>kx 0 ⟨[sL 0 (.hd 0 0),sL 1 (.vS x.1.2.1),sL 4 (.vI r.1)],[],[.cells 111 [.opt r.2.1 0 0,.own 2],.dead,.row .u8 5 r.2.2]⟩
def zaw_L:Nat→SubQ:=tblL [(0,zaw_l0)]
theorem zaw_sub0:qBu zaw_L zaw_G 2 13 70 0 zaw_b0:=qAw (show zaw_L 0=zaw_l0 from by kernel_rfl) fun x R kn kx kr=>qAx (step:=fun y=>qD1 x.1.2.1 y.1 x.1.2.2.2.1 y.2.1 y.2.2.1 y.2.2.2) (enc:=fun (y:Int × Int × Bool × (List Int))=>zaw_d0.e ((x.1.1,x.1.2.1,y.1,x.1.2.2.2.1,y.2.1,x.1.2.2.2.2.2),((y.2.2.1,x.2.1.2),x.2.2.1,y.2.2.2,x.2.2.2.2))) (fun y=>by kernel_rfl) (fun y ki=>by simp only [qD1,-eq_self,qAc,qAg,obA,obS,slL,slR,qAd]; kernel_rfl) (x.1.2.2.1,x.1.2.2.2.2.1,x.2.1.1,x.2.2.2.1)
theorem zaw_subs:qAq zaw_L zaw_G 2 13 70 zaw_q:=qAl (show qAs zaw_L zaw_G 2 13 70 [(0,zaw_b0)] from ⟨zaw_sub0,tV⟩)
def zaw_da:=(qAa (dVC (dCO (dH 0 0))) (qAa (dVC (dCO dS)) dNil))
def zaw_db:=(qAa zDJW4 (qAa (dRow .u8 5) dNil))
def zaw_c:CS:=mkC zaw_da zaw_db (fun x y=>zaw_s (⟨y.1.1,y.2.1⟩:qG5) x.2.1) (fun x y r=>.tup []) fun x y r=>[.cells 111 [.opt r.addr 0 0,.own 2],.dead,.row .u8 5 r.buf]
theorem zaw_val:qAn Tryd.prog 91 zaw_c:=qAo zaw_chk 13 zaw_Gok 2 (fun x=>Nat.le_of_ble_eq_true rfl) (fun y=>rfl) zaw_subs fun x y=>by
 simp only [zaw_s,-eq_self,qAc,qAg,obA,obS,slL,slR,qAd];kernel_rfl
def zaw_w:CQ:=qBx [(0,some 0,none),(0,some 1,some (.u8,5))] (qCo [true,true] zaw_c)
theorem zaw_ok:qAe Tryd.prog 91 zaw_w:=qAv zaw_val
def zbr_da:=(qAa (dVC (dCO (dH 0 0))) zDJW8)
def zbr_db:=(qAa zDJW11 (qAa (qBb .node) (qAa (dRow .u8 5) dNil)))
def zbr_cs (self:qG5→(List Eng.Node)→Int→Option (qG5 × Int)):CS:=mkC zbr_da zbr_db (fun x y=>self (⟨y.1.1,y.2.2.1⟩:qG5) y.2.1 x.2.2.1) (fun x y r=>.c (.o (.vI r.2))) fun x y r=>[.cells 111 [.opt r.1.addr 0 0,.own 3],.view .node y.2.1,.dead,.row .u8 5 r.1.buf]
def zbr_ws (self:qG5→(List Eng.Node)→Int→Option (qG5 × Int)):CQ:=qBx [(0,some 0,none),(0,some 1,some (.u8,5)),(1,none,some (.node,46))] (qCo [true,false,true] (zbr_cs self))
def zbr_b2:IQ:=(.join [] [0,1,2,7,8,26,27] (.seq (.seq (rg 36 [oP 34 (.faddr 0 t7),oP 35 (.load none t34),oP 36 (.bi .eql t35 (vI 7))]) (.cond t36 (.seq (rg 43 [oM 37 t0,oM 38 t1,oM 39 t2,oP 40 (.iaddr 6 t38 t39),oP 41 (.faddr 1 t40),oP 42 (.load none t41),oP 43 (.call 91 [t37,t42])]) (rg 45 [oM 44 t0,oP 45 (.call 92 [t44,(vC 58)])])) .skip)) (rg 2 [oM 46 t0,oM 47 t1,oM 48 t2,oP 49 (.call 66 [t46,t47,t48]),oM 2 t49])))
def zbr_b1:IQ:=(.loop [0,1,2,7,8,26,27] (.seq (rg 28 [oP 28 (.bi .lss t27 t26)]) (.seq (.cond t28 .skip (.cn [0,2,8] (.exit 1))) (.seq (.block 2 (.seq (rg 9 [oM 29 t27,oM 9 t29]) (.seq (.seq (rg 31 [oM 30 t9,oP 31 (.bi .gtr t30 (vI 0))]) (.cond t31 (rg 33 [oM 32 t0,oP 33 (.call 92 [t32,(vC 44)])]) .skip)) (.cn [0,1,2,7,8,26,27] (.sub 2 zbr_b2))))) (rg 27 [oP 50 (.bi .add t27 (vI 1)),oM 27 t50])))))
def zbr_b0:IQ:=(.join [] [0,2] (.seq (rg 24 [oM 21 t0,oM 22 t8,oP 23 (.index t22 (vI 0)),oP 24 (.call 92 [t21,t23])]) (.seq (.seq (rg 27 [oP 25 (.faddr 5 t7),oP 26 (.load none t25),oP 27 (.mv (vI 0))]) (.block 1 (.cn [0,1,2,7,8,26,27] (.sub 1 zbr_b1)))) (rg 54 [oM 51 t0,oM 52 t8,oP 53 (.index t52 (vI 1)),oP 54 (.call 92 [t51,t53])]))))
def zbr_q:IQ:=(.seq (rg 6 [oP 6 (.mv (vI 0))]) (.seq (rg 0 [oM 10 t1,oM 11 t2,oP 12 (.iaddr 6 t10 t11),oP 13 (.load (some 6) t12),oP 7 (.alloc 46 [.int .i64 0,.string ⟨#[]⟩,.string ⟨#[]⟩,.bool false,.int .i64 0,.int .i64 0]),oN (.store 6 t7 t13)]) (.seq (rg 2 [oM 14 t2,oP 15 (.bi .add t14 (vI 1)),oM 2 t15]) (.seq (.seq (rg 17 [oP 16 (.faddr 0 t7),oP 17 (.load none t16)]) (.block 0 (.seq (rg 55 [oP 56 (.bi .eql t17 (vI 1)),oM 55 t56]) (.cond t55 (rg 58 [oM 57 t0,oP 58 (.call 90 [t57,(.v (.string ⟨#[110,117,108,108]⟩))])]) (.seq (rg 59 [oP 60 (.bi .eql t17 (vI 2)),oM 59 t60]) (.cond t59 (rg 62 [oM 61 t0,oP 62 (.call 90 [t61,(.v (.string ⟨#[102,97,108,115,101]⟩))])]) (.seq (rg 63 [oP 64 (.bi .eql t17 (vI 3)),oM 63 t64]) (.cond t63 (rg 66 [oM 65 t0,oP 66 (.call 90 [t65,(.v (.string ⟨#[116,114,117,101]⟩))])]) (.seq (rg 67 [oP 68 (.bi .eql t17 (vI 4)),oM 67 t68]) (.cond t67 (rg 72 [oM 69 t0,oP 70 (.faddr 2 t7),oP 71 (.load none t70),oP 72 (.call 90 [t69,t71])]) (.seq (rg 73 [oP 74 (.bi .eql t17 (vI 5)),oM 73 t74]) (.cond t73 (rg 78 [oM 75 t0,oP 76 (.faddr 2 t7),oP 77 (.load none t76),oP 78 (.call 91 [t75,t77])]) (.seq (rg 8 [oP 8 (.mv (.v (.string ⟨#[91,93]⟩)))]) (.seq (.seq (rg 20 [oP 18 (.faddr 0 t7),oP 19 (.load none t18),oP 20 (.bi .eql t19 (vI 7))]) (.cond t20 (rg 8 [oP 8 (.mv (.v (.string ⟨#[123,125]⟩)))]) .skip)) (.cn [0,1,2,7,8] (.sub 0 zbr_b0)))))))))))))))) (.seq (rg 6 [oM 79 t2,oM 6 t79]) (.canon [(2000000,some 0,.u8,0)] [6] .ret))))))
theorem zbr_chk:chk Tryd.prog 66 []=some (zbr_q.erase,[.tmp 6],80):=by kernel_rfl
def zbr_p2 (self:qG5→(List Eng.Node)→Int→Option (qG5 × Int)) (at_:Int) (b_addr:Bool) (v:List Eng.Node) (qHh:Int) (b_buf:List Int):Option (Int × Bool × (List Int)) :=
 bif decide (qHh=(7:Int)) then (
  gd (0≤at_∧at_<v.length) <|
  gd ((Int.toNat at_)<v.length) <|
  gd ((Int.toNat at_)<v.length) <|
  (zaw_s (⟨b_addr,b_buf⟩:qG5) ((v.getD (Int.toNat at_) (ET.dft .node)).key)).bind fun r57 =>
  (zcb_s r57 (58:Int)).bind fun r58 =>
  (self r58.1 v at_).bind fun r59 =>
  some (r59.2,r59.1.addr,r59.1.buf))
 else (
  (self (⟨b_addr,b_buf⟩:qG5) v at_).bind fun r60 =>
  some (r60.2,r60.1.addr,r60.1.buf))
def qD3 (self:qG5→(List Eng.Node)→Int→Option (qG5 × Int)) (at_ x26_ x27_:Int) (b_addr:Bool) (v:List Eng.Node) (qHh:Int) (b_buf:List Int):Option ((Int × Int × Bool × (List Int)) ⊕ (Int × Bool × (List Int))) :=
 bif decide (x27_<x26_) then (
  bif decide ((0:Int)<x27_) then (
   (zcb_s (⟨b_addr,b_buf⟩:qG5) (44:Int)).bind fun r56 =>
   (zbr_p2 self at_ r56.1.addr v qHh r56.1.buf).bind fun o61 =>
   gd (qAf (x27_+(1:Int))) <|
   some (.inl (o61.1,(x27_+(1:Int)),o61.2.1,o61.2.2)))
  else (
   (zbr_p2 self at_ b_addr v qHh b_buf).bind fun o62 =>
   gd (qAf (x27_+(1:Int))) <|
   some (.inl (o62.1,(x27_+(1:Int)),o62.2.1,o62.2.2))))
 else (
  some (.inr (at_,b_addr,b_buf)))
def zbr_p1 (self:qG5→(List Eng.Node)→Int→Option (qG5 × Int)) (at_ x26_ x27_:Int) (b_addr:Bool) (v:List Eng.Node) (qHh:Int) (b_buf:List Int):Option (Int × Bool × (List Int)) :=
 qBn (fun x:(Int × Int × Bool × (List Int))=>qD3 self x.1 x26_ x.2.1 x.2.2.1 v qHh x.2.2.2) (at_,x27_,b_addr,b_buf)
def zbr_p0 (self:qG5→(List Eng.Node)→Int→Option (qG5 × Int)) (at_:Int) (signs:BA) (b_addr:Bool) (v:List Eng.Node) (b_buf:List Int) (qHh qHm:Int):Option (Int × Bool × (List Int)) :=
 gd (0≤(0:Int)∧(0:Int)<signs.size) <|
 (zcb_s (⟨b_addr,b_buf⟩:qG5) (bAt signs (0:Int))).bind fun r55 =>
 (zbr_p1 self at_ qHm (0:Int) r55.1.addr v qHh r55.1.buf).bind fun o63 =>
 gd (0≤(1:Int)∧(1:Int)<signs.size) <|
 (zcb_s (⟨o63.2.1,o63.2.2⟩:qG5) (bAt signs (1:Int))).bind fun r64 =>
 some (o63.1,r64.1.addr,r64.1.buf)
def zbr_t (self:qG5→(List Eng.Node)→Int→Option (qG5 × Int)) (b:qG5) (v:(List Eng.Node)) (at_:Int):Option (qG5 × Int) :=
 gd (0≤at_∧at_<v.length) <|
 gd ((Int.toNat at_)<v.length) <|
 gd (qAf (at_+(1:Int))) <|
 bif decide (((v.getD (Int.toNat at_) (ET.dft .node)).kind)=(1:Int)) then (
  (zcc_s b (⟨#[110,117,108,108]⟩:BA)).bind fun r50 =>
  some (r50.1,(at_+(1:Int))))
 else (
  bif decide (((v.getD (Int.toNat at_) (ET.dft .node)).kind)=(2:Int)) then (
   (zcc_s b (⟨#[102,97,108,115,101]⟩:BA)).bind fun r51 =>
   some (r51.1,(at_+(1:Int))))
  else (
   bif decide (((v.getD (Int.toNat at_) (ET.dft .node)).kind)=(3:Int)) then (
    (zcc_s b (⟨#[116,114,117,101]⟩:BA)).bind fun r52 =>
    some (r52.1,(at_+(1:Int))))
   else (
    bif decide (((v.getD (Int.toNat at_) (ET.dft .node)).kind)=(4:Int)) then (
     (zcc_s b ((v.getD (Int.toNat at_) (ET.dft .node)).text)).bind fun r53 =>
     some (r53.1,(at_+(1:Int))))
    else (
     bif decide (((v.getD (Int.toNat at_) (ET.dft .node)).kind)=(5:Int)) then (
      (zaw_s b ((v.getD (Int.toNat at_) (ET.dft .node)).text)).bind fun r54 =>
      some (r54,(at_+(1:Int))))
     else (
      bif decide (((v.getD (Int.toNat at_) (ET.dft .node)).kind)=(7:Int)) then (
       (zbr_p0 self (at_+(1:Int)) (⟨#[123,125]⟩:BA) b.addr v b.buf ((v.getD (Int.toNat at_) (ET.dft .node)).kind) ((v.getD (Int.toNat at_) (ET.dft .node)).kids)).bind fun o65 =>
       some ((⟨o65.2.1,o65.2.2⟩:qG5),o65.1))
      else (
       (zbr_p0 self (at_+(1:Int)) (⟨#[91,93]⟩:BA) b.addr v b.buf ((v.getD (Int.toNat at_) (ET.dft .node)).kind) ((v.getD (Int.toNat at_) (ET.dft .node)).kids)).bind fun o66 =>
       some ((⟨o66.2.1,o66.2.2⟩:qG5),o66.1)))))))
def zbr_G (self:qG5→(List Eng.Node)→Int→Option (qG5 × Int)):Nat→Option CQ:=tblQ [(90,zcc_w),(91,zaw_w),(92,zcb_w),(66,zbr_ws self)]
theorem zbr_Gok (self:qG5→(List Eng.Node)→Int→Option (qG5 × Int)) (hself:qAe Tryd.prog 66 (zbr_ws self)):∀f C,(zbr_G self) f=some C→qAe Tryd.prog f C:=qAj ⟨zcc_ok,zaw_ok,zcb_ok,hself,tV⟩
def zDJW10:=(qCn 46 (qAa dZ (qAa dS (qAa dS zDJW5))))
def zbr_d2:=(dQS (qAa (dSO 0 (dH 0 0)) (qAa (dSO 1 (dO 1)) (qAa (dSO 2 dZ) (qAa (dSO 7 (dH 3 0)) (qAa (dSO 8 dS) (qAa (dSO 26 dZ) (qAa (dSO 27 dZ) dNil))))))) (qAa (qCn 111 (qAa (dP 0 0) (qAa (dO 4) dNil))) (qAa (qBb .node) (qAa dDead (qAa zDJW10 (qAa (dRow .u8 5) dNil))))))
def zbr_l2 (self:qG5→(List Eng.Node)→Int→Option (qG5 × Int)):SubQ:=mkL zbr_d2 (fun x=>zbr_p2 self x.1.2.2.1 x.2.1.1 x.2.2.1 x.2.2.2.2.1.1 x.2.2.2.2.2.1) fun x r R kn kx kr=>kn ⟨[sL 0 (.hd 0 0),sL 1 (.own 1),sL 2 (.vI r.1),sL 7 (.hd 3 0),sL 8 (.vS x.1.2.2.2.2.1),sL 26 (.vI x.1.2.2.2.2.2.1),sL 27 (.vI x.1.2.2.2.2.2.2.1)],[],[.cells 111 [.opt r.2.1 0 0,.own 4],.view .node x.2.2.1,.dead,.cells 46 [.vI x.2.2.2.2.1.1,.vS x.2.2.2.2.1.2.1,.vS x.2.2.2.2.1.2.2.1,.vB x.2.2.2.2.1.2.2.2.1,.vI x.2.2.2.2.1.2.2.2.2.1,.vI x.2.2.2.2.1.2.2.2.2.2.1],.row .u8 5 r.2.2]⟩
def zbr_d1:=(dQS (qAa (dSO 0 (dH 0 0)) (qAa (dSO 1 (dO 1)) (qAa (dSO 2 dZ) (qAa (dSO 7 (dH 3 0)) (qAa (dSO 8 dS) (qAa (dSO 26 dZ) (qAa (dSO 27 dZ) dNil))))))) (qAa (qCn 111 (qAa (dP 0 0) (qAa (dO 4) dNil))) (qAa (qBb .node) (qAa dDead (qAa zDJW10 (qAa (dRow .u8 5) dNil))))))
def zbr_l1 (self:qG5→(List Eng.Node)→Int→Option (qG5 × Int)):SubQ:=mkL zbr_d1 (fun x=>zbr_p1 self x.1.2.2.1 x.1.2.2.2.2.2.1 x.1.2.2.2.2.2.2.1 x.2.1.1 x.2.2.1 x.2.2.2.2.1.1 x.2.2.2.2.2.1) fun x r R kn kx kr=>kx 1 ⟨[sL 0 (.hd 0 0),sL 2 (.vI r.1),sL 8 (.vS x.1.2.2.2.2.1)],[],[.cells 111 [.opt r.2.1 0 0,.own 3],.view .node x.2.2.1,.dead,.row .u8 5 r.2.2]⟩
def zbr_d0:=(dQS (qAa (dSO 0 (dH 0 0)) (qAa (dSO 1 (dO 1)) (qAa (dSO 2 dZ) (qAa (dSO 7 (dH 3 0)) (qAa (dSO 8 dS) dNil))))) (qAa zDJW11 (qAa (qBb .node) (qAa (dRow .u8 5) (qAa zDJW10 dNil)))))
def zbr_l0 (self:qG5→(List Eng.Node)→Int→Option (qG5 × Int)):SubQ:=mkL zbr_d0 (fun x=>zbr_p0 self x.1.2.2.1 x.1.2.2.2.2.1 x.2.1.1 x.2.2.1 x.2.2.2.1 x.2.2.2.2.1.1 x.2.2.2.2.1.2.2.2.2.2.1) fun x r R kn kx kr=>kn ⟨[sL 0 (.hd 0 0),sL 2 (.vI r.1)],[],[.cells 111 [.opt r.2.1 0 0,.own 3],.view .node x.2.2.1,.dead,.row .u8 5 r.2.2]⟩
def zbr_L (self:qG5→(List Eng.Node)→Int→Option (qG5 × Int)):Nat→SubQ:=tblL [(2,zbr_l2 self),(1,zbr_l1 self),(0,zbr_l0 self)]
theorem zbr_sub2 (self:qG5→(List Eng.Node)→Int→Option (qG5 × Int)):qBu (zbr_L self) (zbr_G self) 3 28 80 2 zbr_b2:=qAw (show (zbr_L self) 2=(zbr_l2 self) from by kernel_rfl) fun x R kn kx kr=>by
 simp only [zbr_p2,-eq_self,qAc,qAg,obA,obS,slL,slR,qAd];kernel_rfl
theorem zbr_sub1 (self:qG5→(List Eng.Node)→Int→Option (qG5 × Int)):qBu (zbr_L self) (zbr_G self) 3 28 80 1 zbr_b1:=qAw (show (zbr_L self) 1=(zbr_l1 self) from by kernel_rfl) fun x R kn kx kr=>qAx (step:=fun y=>qD3 self y.1 x.1.2.2.2.2.2.1 y.2.1 y.2.2.1 x.2.2.1 x.2.2.2.2.1.1 y.2.2.2) (enc:=fun (y:Int × Int × Bool × (List Int))=>zbr_d1.e ((x.1.1,x.1.2.1,y.1,x.1.2.2.2.1,x.1.2.2.2.2.1,x.1.2.2.2.2.2.1,y.2.1,x.1.2.2.2.2.2.2.2),((y.2.2.1,x.2.1.2),x.2.2.1,x.2.2.2.1,x.2.2.2.2.1,y.2.2.2,x.2.2.2.2.2.2))) (fun y=>by kernel_rfl) (fun y ki=>by simp only [qD3,-eq_self,qAc,qAg,obA,obS,slL,slR,qAd]; kernel_rfl) (x.1.2.2.1,x.1.2.2.2.2.2.2.1,x.2.1.1,x.2.2.2.2.2.1)
theorem zbr_sub0 (self:qG5→(List Eng.Node)→Int→Option (qG5 × Int)):qBu (zbr_L self) (zbr_G self) 3 28 80 0 zbr_b0:=qAw (show (zbr_L self) 0=(zbr_l0 self) from by kernel_rfl) fun x R kn kx kr=>by
 simp only [zbr_p0,-eq_self,qAc,qAg,obA,obS,slL,slR,qAd];kernel_rfl
theorem zbr_subs (self:qG5→(List Eng.Node)→Int→Option (qG5 × Int)):qAq (zbr_L self) (zbr_G self) 3 28 80 zbr_q:=qAl (show qAs (zbr_L self) (zbr_G self) 3 28 80 [(0,zbr_b0),(1,zbr_b1),(2,zbr_b2)] from ⟨(zbr_sub0 self),(zbr_sub1 self),(zbr_sub2 self),tV⟩)
theorem zbr_val_t (self:qG5→(List Eng.Node)→Int→Option (qG5 × Int)) (hself:qAe Tryd.prog 66 (zbr_ws self)):qAn Tryd.prog 66 (zbr_cs (zbr_t self)):=qAo zbr_chk 28 (zbr_Gok self hself) 3 (fun x=>Nat.le_of_ble_eq_true rfl) (fun y=>rfl) (zbr_subs self) fun x y=>by
 simp only [zbr_t,-eq_self,qAc,qAg,obA,obS,slL,slR,qAd];kernel_rfl
def zbr_n:Nat→qG5→(List Eng.Node)→Int→Option (qG5 × Int)
 | 0=>fun _ _ _=>none
 | n+1=>zbr_t (zbr_n n)
def zbr_s (b:qG5) (v:(List Eng.Node)) (at_:Int):Option (qG5 × Int):=evt fun n=>zbr_n n b v at_
theorem zbr_valn:∀n,qAn Tryd.prog 66 (zbr_cs (zbr_n n))
 | 0=>qAn.zero fun args hp R k=>by
  show ((Dec.d zbr_da args).bind fun x=>(Dec.d zbr_db hp).bind fun y=>none)=none;cases Dec.d zbr_da args with
  | none=>rfl
  | some x=>cases Dec.d zbr_db hp <;> rfl
 | n+1=>zbr_val_t (zbr_n n) (qAv (zbr_valn n))
theorem zbr_val:qAn Tryd.prog 66 (zbr_cs zbr_s):=qAn.evt zbr_valn (fun args hp R k=>by
  show ((Dec.d zbr_da args).bind fun x=>(Dec.d zbr_db hp).bind fun y=>_)=(((Dec.d zbr_da args).bind fun x=>(Dec.d zbr_db hp).bind fun y=>_):Option (SV × List SB)).bind _;cases Dec.d zbr_da args with
  | none=>rfl
  | some x =>
   cases Dec.d zbr_db hp with
   | none=>rfl
   | some y=>simp only [obS,Option.bind_assoc]) fun args hp v hp' h=>by
  obtain ⟨x,h1,h2⟩:=Option.bind_eq_some_iff.1 h;obtain ⟨y,h3,h4⟩:=Option.bind_eq_some_iff.1 h2;obtain ⟨r,h5,h6⟩:=Option.bind_eq_some_iff.1 h4;obtain ⟨n,h7⟩:=evt_some h5;refine ⟨n,?_⟩;show ((Dec.d zbr_da args).bind fun x=>(Dec.d zbr_db hp).bind fun y=>_)=_;rw [h1];simp only [obS];rw [h3];simp only [obS];exact (congrArg (fun z=>Option.bind z _) h7).trans h6
def zbr_w:CQ:=zbr_ws zbr_s
theorem zbr_ok:qAe Tryd.prog 66 zbr_w:=qAv zbr_val
def zbz_q:IQ:=(.seq (rg 2 [oP 2 (.mv (vI 0))]) (.seq (rg 2 (rF 3 t0 1++[oP 7 (.len t6),oM 2 t7])) (.canon [(2000000,some 0,.u8,0)] [2] .ret)))
theorem zbz_chk:chk Tryd.prog 67 []=some (zbz_q.erase,[.tmp 2],8):=by kernel_rfl
def zbz_s (b:qG5):Option Int :=
 some (b.buf.length:Int)
def zbz_G:Nat→Option CQ:=tblQ []
theorem zbz_Gok:∀f C,zbz_G f=some C→qAe Tryd.prog f C:=fun f C h=>by cases h
def zbz_L:Nat→SubQ:=tblL []
theorem zbz_subs:qAq zbz_L zbz_G 2 3 8 zbz_q:=qAl (show qAs zbz_L zbz_G 2 3 8 [] from tV)
def zbz_da:=(qAa (dVC (dCO (dH 0 0))) dNil)
def zbz_db:=(qAa zDJW4 (qAa (qBb .u8) dNil))
def zbz_c:CS:=mkC zbz_da zbz_db (fun x y=>zbz_s (⟨y.1.1,y.2.1⟩:qG5)) (fun x y r=>.c (.o (.vI r))) fun x y r=>[.cells 111 [.opt y.1.1 0 0,.own 1],.view .u8 y.2.1]
theorem zbz_val:qAn Tryd.prog 67 zbz_c:=qAo zbz_chk 3 zbz_Gok 2 (fun x=>Nat.le_of_ble_eq_true rfl) (fun y=>rfl) zbz_subs fun x y=>by
 simp only [zbz_s,-eq_self,qAc,qAg,obA,obS,slL,slR,qAd];kernel_rfl
def zbz_w:CQ:=qBx [(0,some 0,none),(0,some 1,some (.u8,5))] (qCo [true,false] zbz_c)
theorem zbz_ok:qAe Tryd.prog 67 zbz_w:=qAv zbz_val
def zca_q:IQ:=(.seq (rg 2 [oP 2 (.mv (.v (.string ⟨#[]⟩)))]) (.seq (.reg 2 (some [0,1,2,3,4,5,6,7,8,9,10,11]) (rF 3 t0 1++[oP 7 (.ext .sdata [t6])]++rF 8 t0 1++[oP 12 (.len t11),oP 13 (.ext (.ustr 5) [t7,t12]),oM 2 t13])) (.canon [(2000000,some 0,.u8,0)] [2] .ret)))
theorem zca_chk:chk Tryd.prog 68 []=some (zca_q.erase,[.tmp 2],14):=by kernel_rfl
def zca_s (b:qG5):Option (qG5 × BA) :=
 gd (0<b.buf.length) <|
 gd ((b.buf.length:Int)=b.buf.length∧0<b.buf.length∧∀x∈b.buf,0≤x∧x<256) <|
 some ((⟨b.addr,[]⟩:qG5),(qA2 b.buf))
def zca_G:Nat→Option CQ:=tblQ []
theorem zca_Gok:∀f C,zca_G f=some C→qAe Tryd.prog f C:=fun f C h=>by cases h
def zca_L:Nat→SubQ:=tblL []
theorem zca_subs:qAq zca_L zca_G 2 3 14 zca_q:=qAl (show qAs zca_L zca_G 2 3 14 [] from tV)
def zca_da:=(qAa (dVC (dCO (dH 0 0))) dNil)
def zca_db:=(qAa zDJW4 (qAa (dRow .u8 5) dNil))
def zca_c:CS:=mkC zca_da zca_db (fun x y=>zca_s (⟨y.1.1,y.2.1⟩:qG5)) (fun x y r=>.c (.o (.vS r.2))) fun x y r=>[.cells 111 [.opt r.1.addr 0 0,.own 1],.dead]
theorem zca_val:qAn Tryd.prog 68 zca_c:=qAo zca_chk 3 zca_Gok 2 (fun x=>Nat.le_of_ble_eq_true rfl) (fun y=>rfl) zca_subs fun x y=>by
 simp only [zca_s,-eq_self,qAc,qAg,obA,obS,slL,slR,qAd];kernel_rfl
def zca_w:CQ:=qBx [(0,some 0,none),(0,some 1,some (.u8,5))] (qCo [true,true] zca_c)
theorem zca_ok:qAe Tryd.prog 68 zca_w:=qAv zca_val
def zas_q:IQ:=(.seq (rg 3 [oP 2 (.mv (.v (.string ⟨#[]⟩))),oP 3 (.mv (vI 0))]) (.seq (.seq (rg 7 [oM 5 t0,oP 6 (.call 65 [t5]),oP 7 (.un .not t6)]) (.cond t7 (.seq (rg 3 [oP 2 (.mv (.v (.string ⟨#[]⟩))),oP 3 (.mv (vI 31))]) (.cn [2,3] .ret)) .skip)) (.seq (rg 4 [oP 4 (.alloc 111 [.pointer none,.slice none 0 0])]) (.seq (rg 9 [oM 8 t0,oP 9 (.call 66 [t4,t8,(vI 0)])]) (.seq (.seq (rg 11 [oP 10 (.call 67 [t4]),oP 11 (.bi .gtr t10 (vI 262144))]) (.cond t11 (.seq (rg 3 [oP 2 (.mv (.v (.string ⟨#[]⟩))),oP 3 (.mv (vI 10))]) (.cn [2,3] .ret)) .skip)) (.seq (rg 3 [oP 12 (.call 68 [t4]),oM 2 t12,oP 3 (.mv (vI 0))]) (.cn [2,3] .ret)))))))
theorem zas_chk:chk Tryd.prog 38 []=some (zas_q.erase,[.tmp 2,.tmp 3],13):=by kernel_rfl
def zas_s (v:(List Eng.Node)):Option (BA × Int) :=
 (zat_s v).bind fun r1 =>
 bif (!r1) then (
  some ((⟨#[]⟩:BA),(31:Int)))
 else (
  (zbr_s (⟨false,[]⟩:qG5) v (0:Int)).bind fun r2 =>
  (zbz_s r2.1).bind fun r3 =>
  bif decide ((262144:Int)<r3) then (
   some ((⟨#[]⟩:BA),(10:Int)))
  else (
   (zca_s r2.1).bind fun r4 =>
   some (r4.2,(0:Int))))
def zas_G:Nat→Option CQ:=tblQ [(65,zat_w),(66,zbr_w),(67,zbz_w),(68,zca_w)]
theorem zas_Gok:∀f C,zas_G f=some C→qAe Tryd.prog f C:=qAj ⟨zat_ok,zbr_ok,zbz_ok,zca_ok,tV⟩
def zas_L:Nat→SubQ:=tblL []
theorem zas_subs:qAq zas_L zas_G 1 5 13 zas_q:=qAl (show qAs zas_L zas_G 1 5 13 [] from tV)
def zas_da:=(qAa (dVC (dCO (dO 0))) dNil)
def zas_db:=(qAa (qBb .node) dNil)
def zas_c:CS:=mkC zas_da zas_db (fun x y=>zas_s y.1) (fun x y r=>.tup [.o (.vS r.1),.o (.vI r.2)]) fun x y r=>[.view .node y.1]
theorem zas_val:qAn Tryd.prog 38 zas_c:=qAo zas_chk 5 zas_Gok 1 (fun x=>Nat.le_of_ble_eq_true rfl) (fun y=>rfl) zas_subs fun x y=>by
 simp only [zas_s,-eq_self,qAc,qAg,obA,obS,slL,slR,qAd];kernel_rfl
def zas_w:CQ:=qBx [(0,none,some (.node,46))] (qCv [false] zas_c)
theorem zas_ok:qAe Tryd.prog 38 zas_w:=qB4 zas_val
def zbs_b0:IQ:=(.join [] [1,2,7,8,9] (.cond t61 (.seq (rg 6 [oP 6 (.mv vT)]) (.cn [6] .ret)) .skip))
def zbs_b2:IQ:=(.seq (rg 6 [oP 117 (.load (some 15) t18),oP 118 (.load (some 15) t7),oP 119 (.call 25 [t117,t118]),oM 6 t119]) (.cn [6] .ret))
def zbs_b1:IQ:=(.seq (.seq (rg 76 [oM 69 t8,oP 70 (.bi .neq t69 (vI 0)),oM 71 t70,oE 72 (.mv t9) 71,oE 73 (.mv t1) 71,oE 74 (.call 21 [t72,(vI 0),t73]) 71,oE 75 (.bi .geq t74 (vI 0)) 71,oP 76 (.pick t71 vT t75)]) (.cond t76 (.seq (rg 6 [oP 6 (.mv vT)]) (.cn [6] .ret)) .skip)) (.seq (rg 16 [oP 77 (.bslice 46 6 0 [.int .i64 0,.string ⟨#[]⟩,.string ⟨#[]⟩,.bool false,.int .i64 0,.int .i64 0] []),oM 78 t9,oP 79 (.append 46 6 64 [.int .i64 0,.string ⟨#[]⟩,.string ⟨#[]⟩,.bool false,.int .i64 0,.int .i64 0] t77 t78),oM 16 t79]) (.seq (rg 0 [oM 80 t16,oP 81 (.iaddr 6 t80 (vI 0)),oP 82 (.faddr 5 t81),oP 83 (.load none t82),oP 84 (.bi .add t83 (vI 1)),oP 85 (.iaddr 6 t80 (vI 0)),oP 86 (.faddr 5 t85),oN (.store 1 t86 t84)]) (.seq (rg 16 [oM 87 t16,oM 88 t1,oM 89 t2,oP 90 (.build [.int .i64 0,.string ⟨#[]⟩,.string ⟨#[]⟩,.bool false,.int .i64 0,.int .i64 0] [(0,1,(vI 5)),(1,1,t88),(2,1,t89)]),oP 91 (.bslice 46 6 1 [.int .i64 0,.string ⟨#[]⟩,.string ⟨#[]⟩,.bool false,.int .i64 0,.int .i64 0] [(0,t90)]),oP 92 (.append 46 6 64 [.int .i64 0,.string ⟨#[]⟩,.string ⟨#[]⟩,.bool false,.int .i64 0,.int .i64 0] t87 t91),oM 16 t92]) (.seq (rg 13 [oM 94 t16,oP 95 (.call 38 [t94]),oM 93 t95,oP 96 (.extract t93 0),oP 97 (.extract t93 1),oM 17 t96,oM 13 t97]) (.seq (.seq (rg 99 [oM 98 t13,oP 99 (.bi .neq t98 (vI 0))]) (.cond t99 (.seq (rg 6 [oP 6 (.mv vT)]) (.cn [6] .ret)) .skip)) (.seq (rg 15 [oM 101 t17,oP 102 (.call 23 [t101]),oM 100 t102,oP 103 (.extract t100 0),oP 104 (.extract t100 1),oP 18 (.alloc 51 [.slice none 0 0,.string ⟨#[]⟩,.bool false,.string ⟨#[]⟩,.bool false,.slice none 0 0,.bool false,.string ⟨#[]⟩,.bool false,.bool false,.int .i64 0,.bool false,.int .i64 0,.bool false,.int .i64 0]),oN (.store 15 t18 t103),oM 15 t104]) (.seq (.seq (rg 113 [oM 105 t15,oP 106 (.bi .neq t105 (vI 0)),oM 107 t106,oE 108 (.faddr 0 t18) 107,oE 109 (.load none t108) 107,oE 110 (.mv t16) 107,oE 111 (.call 30 [t109,t110]) 107,oE 112 (.un .not t111) 107,oP 113 (.pick t107 vT t112)]) (.cond t113 (.seq (rg 6 [oP 6 (.mv vF)]) (.cn [6] .ret)) .skip)) (.seq (rg 0 [oP 114 (.faddr 0 t7),oP 115 (.load none t114),oP 116 (.faddr 0 t18),oN (.store 1 t116 t115)]) (.canon [(5000018,some 0,.u8,0)] [7,18] (.sub 2 zbs_b2)))))))))))
def zbs_q:IQ:=(.seq (rg 6 [oP 6 (.mv vF)]) (.seq (.seq (rg 20 [oP 19 (.call 26 []),oP 20 (.un .not t19)]) (.cond t20 (.seq (rg 6 [oP 6 (.mv vF)]) (.cn [6] .ret)) .skip)) (.seq (rg 8 [oM 22 t0,oP 23 (.call 23 [t22]),oM 21 t23,oP 24 (.extract t21 0),oP 25 (.extract t21 1),oP 7 (.alloc 51 [.slice none 0 0,.string ⟨#[]⟩,.bool false,.string ⟨#[]⟩,.bool false,.slice none 0 0,.bool false,.string ⟨#[]⟩,.bool false,.bool false,.int .i64 0,.bool false,.int .i64 0,.bool false,.int .i64 0]),oN (.store 15 t7 t24),oM 8 t25]) (.seq (rg 11 [oM 27 t0,oP 28 (.call 20 [t27]),oM 26 t28,oP 29 (.extract t26 0),oP 30 (.extract t26 1),oP 31 (.extract t26 2),oM 9 t29,oM 10 t30,oM 11 t31]) (.seq (.seq (rg 33 [oM 32 t10,oP 33 (.bi .neq t32 (vI 0))]) (.cond t33 (.seq (rg 6 [oM 34 t8,oM 35 t10,oP 36 (.bi .eql t34 t35),oM 6 t36]) (.cn [6] .ret)) .skip)) (.seq (rg 13 [oM 38 t9,oP 39 (.call 38 [t38]),oM 37 t39,oP 40 (.extract t37 0),oP 41 (.extract t37 1),oM 12 t40,oM 13 t41]) (.seq (.seq (rg 43 [oM 42 t13,oP 43 (.bi .neq t42 (vI 0))]) (.cond t43 (.seq (rg 6 [oM 44 t13,oP 45 (.bi .eql t44 (vI 10)),oM 6 t45]) (.cn [6] .ret)) .skip)) (.seq (rg 15 [oM 47 t12,oP 48 (.call 23 [t47]),oM 46 t48,oP 49 (.extract t46 0),oP 50 (.extract t46 1),oP 14 (.alloc 51 [.slice none 0 0,.string ⟨#[]⟩,.bool false,.string ⟨#[]⟩,.bool false,.slice none 0 0,.bool false,.string ⟨#[]⟩,.bool false,.bool false,.int .i64 0,.bool false,.int .i64 0,.bool false,.int .i64 0]),oN (.store 15 t14 t49),oM 15 t50]) (.seq (.seq (rg 59 [oM 51 t15,oM 52 t8,oP 53 (.bi .neq t51 t52),oM 54 t53,oE 55 (.load (some 15) t7) 54,oE 56 (.load (some 15) t14) 54,oE 57 (.call 25 [t55,t56]) 54,oE 58 (.un .not t57) 54,oP 59 (.pick t54 vT t58)]) (.cond t59 (.seq (rg 6 [oP 6 (.mv vF)]) (.cn [6] .ret)) .skip)) (.seq (.seq (rg 60 [oM 60 t1]) (.block 0 (.seq (.seq (rg 61 [oP 62 (.bi .eql t60 (.v (.string ⟨#[105,115,115]⟩))),oM 61 t62]) (.cond t61 .skip (.seq (rg 61 [oP 63 (.bi .eql t60 (.v (.string ⟨#[115,117,98]⟩))),oM 61 t63]) (.cond t61 .skip (.seq (rg 61 [oP 64 (.bi .eql t60 (.v (.string ⟨#[97,117,100]⟩))),oM 61 t64]) (.cond t61 .skip (.seq (rg 61 [oP 65 (.bi .eql t60 (.v (.string ⟨#[106,116,105]⟩))),oM 61 t65]) (.cond t61 .skip (.seq (rg 61 [oP 66 (.bi .eql t60 (.v (.string ⟨#[101,120,112]⟩))),oM 61 t66]) (.cond t61 .skip (.seq (rg 61 [oP 67 (.bi .eql t60 (.v (.string ⟨#[110,98,102]⟩))),oM 61 t67]) (.cond t61 .skip (rg 61 [oP 68 (.bi .eql t60 (.v (.string ⟨#[105,97,116]⟩))),oM 61 t68]))))))))))))) (.cn [1,2,7,8,9,61] (.sub 0 zbs_b0))))) (.cn [1,2,7,8,9] (.sub 1 zbs_b1))))))))))))
theorem zbs_chk:chk Tryd.prog 12 []=some (zbs_q.erase,[.tmp 6],120):=by kernel_rfl
def zbs_p0 (x61_:Bool):Option (Bool ⊕ Unit) :=
 bif x61_ then (
  some (.inl true))
 else (
  some (.inr ()))
def zbs_p2 (qHx:BA) (qHq:Bool) (qHy:BA) (qHr qHs:Bool) (qHz:BA) (qHt qHo:Bool) (qHu:Int) (qHi:Bool) (qHk:Int) (qHj:Bool) (qHl:Int) (qIi:BA) (qH8:Bool) (qIj:BA) (qH9 qIa:Bool) (qIk:BA) (qIb qH5:Bool) (qIc:Int) (qH6:Bool) (qId:Int) (qH7:Bool) (qIe:Int) (qHp:List Eng.Node) (qHn:List BA) (qH4:Nat) (qIl:List BA):Option Bool :=
 gd ((0)+qH4≤qHp.length) <|
 (zbu_s (⟨((qHp.drop (0)).take qH4),qIi,qH8,qIj,qH9,qIl,qIa,qIk,qIb,(⟨qH5,qIc⟩:qHe),(⟨qH6,qId⟩:qHe),(⟨qH7,qIe⟩:qHe)⟩:qHb) (⟨qHp,qHx,qHq,qHy,qHr,qHn,qHs,qHz,qHt,(⟨qHo,qHu⟩:qHe),(⟨qHi,qHk⟩:qHe),(⟨qHj,qHl⟩:qHe)⟩:qHb)).bind fun r12 =>
 some r12
def qFw (name more:BA) (e:Int) (qHx:BA) (qHq:Bool) (qHy:BA) (qHr qHs:Bool) (qHz:BA) (qHt qHo:Bool) (qHu:Int) (qHi:Bool) (qHk:Int) (qHj:Bool) (qHl:Int) (v qHp:List Eng.Node) (qHn:List BA):Option Bool :=
 bif (!decide (e=(0:Int))) then (
  some true)
 else (
  (zaq_s v (0:Int) name).bind fun r8 =>
  bif decide ((0:Int)≤r8) then (
   some true)
  else (
   gd (([]:List Eng.Node).length+v.length≤9223372036854775807∧(([]:List Eng.Node).length+v.length)*64≤140737488355328) <|
   gd (0≤(0:Int)∧(0:Int)<([]++v).length) <|
   gd ((Int.toNat (0:Int))<([]++v).length) <|
   gd ((Int.toNat (0:Int))<([]++v).length) <|
   gd (qAf (((([]++v).getD (Int.toNat (0:Int)) (ET.dft .node)).kids)+(1:Int))) <|
   gd (0≤(0:Int)∧(0:Int)<([]++v).length) <|
   gd ((Int.toNat (0:Int))<([]++v).length) <|
   gd ((Int.toNat (0:Int))<([]++v).length) <|
   gd ((([]++v).set (Int.toNat (0:Int)) (⟨(([]++v).getD (Int.toNat (0:Int)) (ET.dft .node)).kind,(([]++v).getD (Int.toNat (0:Int)) (ET.dft .node)).key,(([]++v).getD (Int.toNat (0:Int)) (ET.dft .node)).text,(([]++v).getD (Int.toNat (0:Int)) (ET.dft .node)).whole,(([]++v).getD (Int.toNat (0:Int)) (ET.dft .node)).int,(((([]++v).getD (Int.toNat (0:Int)) (ET.dft .node)).kids)+(1:Int))⟩:Eng.Node)).length+([(⟨(5:Int),name,more,false,(0:Int),(0:Int)⟩:Eng.Node)]:List Eng.Node).length≤9223372036854775807∧((([]++v).set (Int.toNat (0:Int)) (⟨(([]++v).getD (Int.toNat (0:Int)) (ET.dft .node)).kind,(([]++v).getD (Int.toNat (0:Int)) (ET.dft .node)).key,(([]++v).getD (Int.toNat (0:Int)) (ET.dft .node)).text,(([]++v).getD (Int.toNat (0:Int)) (ET.dft .node)).whole,(([]++v).getD (Int.toNat (0:Int)) (ET.dft .node)).int,(((([]++v).getD (Int.toNat (0:Int)) (ET.dft .node)).kids)+(1:Int))⟩:Eng.Node)).length+([(⟨(5:Int),name,more,false,(0:Int),(0:Int)⟩:Eng.Node)]:List Eng.Node).length)*64≤140737488355328) <|
   (zas_s ((([]++v).set (Int.toNat (0:Int)) (⟨(([]++v).getD (Int.toNat (0:Int)) (ET.dft .node)).kind,(([]++v).getD (Int.toNat (0:Int)) (ET.dft .node)).key,(([]++v).getD (Int.toNat (0:Int)) (ET.dft .node)).text,(([]++v).getD (Int.toNat (0:Int)) (ET.dft .node)).whole,(([]++v).getD (Int.toNat (0:Int)) (ET.dft .node)).int,(((([]++v).getD (Int.toNat (0:Int)) (ET.dft .node)).kids)+(1:Int))⟩:Eng.Node))++[(⟨(5:Int),name,more,false,(0:Int),(0:Int)⟩:Eng.Node)])).bind fun r9 =>
   bif (!decide (r9.2=(0:Int))) then (
    some true)
   else (
    (qGu r9.1).bind fun r10 =>
    bif (!decide (r10.2=(0:Int))) then (
     some false)
    else (
     (zbv_s r10.1.value ((([]++v).set (Int.toNat (0:Int)) (⟨(([]++v).getD (Int.toNat (0:Int)) (ET.dft .node)).kind,(([]++v).getD (Int.toNat (0:Int)) (ET.dft .node)).key,(([]++v).getD (Int.toNat (0:Int)) (ET.dft .node)).text,(([]++v).getD (Int.toNat (0:Int)) (ET.dft .node)).whole,(([]++v).getD (Int.toNat (0:Int)) (ET.dft .node)).int,(((([]++v).getD (Int.toNat (0:Int)) (ET.dft .node)).kids)+(1:Int))⟩:Eng.Node))++[(⟨(5:Int),name,more,false,(0:Int),(0:Int)⟩:Eng.Node)])).bind fun r11 =>
     bif (!r11) then (
      some false)
     else (
      (zbs_p2 qHx qHq qHy qHr qHs qHz qHt qHo qHu qHi qHk qHj qHl r10.1.iss r10.1.hasIss r10.1.sub r10.1.hasSub r10.1.hasAud r10.1.jti r10.1.hasJti r10.1.exp_.has r10.1.exp_.at_ r10.1.nbf.has r10.1.nbf.at_ r10.1.iat.has r10.1.iat.at_ qHp qHn qHp.length r10.1.aud).bind fun o13 =>
      some o13)))))
def zbs_s (payload name more:BA):Option Bool :=
 (zbt_s).bind fun r1 =>
 bif (!r1) then (
  some false)
 else (
  (qGu payload).bind fun r2 =>
  (zar_s payload).bind fun r3 =>
  bif (!decide (r3.2.1=(0:Int))) then (
   some (decide (r2.2=r3.2.1)))
  else (
   (zas_s r3.1).bind fun r4 =>
   bif (!decide (r4.2=(0:Int))) then (
    some (decide (r4.2=(10:Int))))
   else (
    (qGu r4.1).bind fun r5 =>
    bif (!decide (r5.2=r2.2)) then (
     some false)
    else (
     (zbu_s r2.1 r5.1).bind fun r6 =>
     bif (!r6) then (
      some false)
     else (
      bif decide (name=(⟨#[105,115,115]⟩:BA)) then (
       (zbs_p0 (decide (name=(⟨#[105,115,115]⟩:BA)))).bind fun o7=>(Sum.elim (fun (o7_0:Bool) =>
        some o7_0) (fun (o7_1:Unit) =>
        (qFw name more r2.2 r2.1.iss r2.1.hasIss r2.1.sub r2.1.hasSub r2.1.hasAud r2.1.jti r2.1.hasJti r2.1.exp_.has r2.1.exp_.at_ r2.1.nbf.has r2.1.nbf.at_ r2.1.iat.has r2.1.iat.at_ r3.1 r2.1.value r2.1.aud).bind fun o14 =>
        some o14)) o7)
      else (
       bif decide (name=(⟨#[115,117,98]⟩:BA)) then (
        (zbs_p0 (decide (name=(⟨#[115,117,98]⟩:BA)))).bind fun o15=>(Sum.elim (fun (o15_0:Bool) =>
         some o15_0) (fun (o15_1:Unit) =>
         (qFw name more r2.2 r2.1.iss r2.1.hasIss r2.1.sub r2.1.hasSub r2.1.hasAud r2.1.jti r2.1.hasJti r2.1.exp_.has r2.1.exp_.at_ r2.1.nbf.has r2.1.nbf.at_ r2.1.iat.has r2.1.iat.at_ r3.1 r2.1.value r2.1.aud).bind fun o16 =>
         some o16)) o15)
       else (
        bif decide (name=(⟨#[97,117,100]⟩:BA)) then (
         (zbs_p0 (decide (name=(⟨#[97,117,100]⟩:BA)))).bind fun o17=>(Sum.elim (fun (o17_0:Bool) =>
          some o17_0) (fun (o17_1:Unit) =>
          (qFw name more r2.2 r2.1.iss r2.1.hasIss r2.1.sub r2.1.hasSub r2.1.hasAud r2.1.jti r2.1.hasJti r2.1.exp_.has r2.1.exp_.at_ r2.1.nbf.has r2.1.nbf.at_ r2.1.iat.has r2.1.iat.at_ r3.1 r2.1.value r2.1.aud).bind fun o18 =>
          some o18)) o17)
        else (
         bif decide (name=(⟨#[106,116,105]⟩:BA)) then (
          (zbs_p0 (decide (name=(⟨#[106,116,105]⟩:BA)))).bind fun o19=>(Sum.elim (fun (o19_0:Bool) =>
           some o19_0) (fun (o19_1:Unit) =>
           (qFw name more r2.2 r2.1.iss r2.1.hasIss r2.1.sub r2.1.hasSub r2.1.hasAud r2.1.jti r2.1.hasJti r2.1.exp_.has r2.1.exp_.at_ r2.1.nbf.has r2.1.nbf.at_ r2.1.iat.has r2.1.iat.at_ r3.1 r2.1.value r2.1.aud).bind fun o20 =>
           some o20)) o19)
         else (
          bif decide (name=(⟨#[101,120,112]⟩:BA)) then (
           (zbs_p0 (decide (name=(⟨#[101,120,112]⟩:BA)))).bind fun o21=>(Sum.elim (fun (o21_0:Bool) =>
            some o21_0) (fun (o21_1:Unit) =>
            (qFw name more r2.2 r2.1.iss r2.1.hasIss r2.1.sub r2.1.hasSub r2.1.hasAud r2.1.jti r2.1.hasJti r2.1.exp_.has r2.1.exp_.at_ r2.1.nbf.has r2.1.nbf.at_ r2.1.iat.has r2.1.iat.at_ r3.1 r2.1.value r2.1.aud).bind fun o22 =>
            some o22)) o21)
          else (
           bif decide (name=(⟨#[110,98,102]⟩:BA)) then (
            (zbs_p0 (decide (name=(⟨#[110,98,102]⟩:BA)))).bind fun o23=>(Sum.elim (fun (o23_0:Bool) =>
             some o23_0) (fun (o23_1:Unit) =>
             (qFw name more r2.2 r2.1.iss r2.1.hasIss r2.1.sub r2.1.hasSub r2.1.hasAud r2.1.jti r2.1.hasJti r2.1.exp_.has r2.1.exp_.at_ r2.1.nbf.has r2.1.nbf.at_ r2.1.iat.has r2.1.iat.at_ r3.1 r2.1.value r2.1.aud).bind fun o24 =>
             some o24)) o23)
           else (
            (zbs_p0 (decide (name=(⟨#[105,97,116]⟩:BA)))).bind fun o25=>(Sum.elim (fun (o25_0:Bool) =>
             some o25_0) (fun (o25_1:Unit) =>
             (qFw name more r2.2 r2.1.iss r2.1.hasIss r2.1.sub r2.1.hasSub r2.1.hasAud r2.1.jti r2.1.hasJti r2.1.exp_.has r2.1.exp_.at_ r2.1.nbf.has r2.1.nbf.at_ r2.1.iat.has r2.1.iat.at_ r3.1 r2.1.value r2.1.aud).bind fun o26 =>
             some o26)) o25)))))))))))
def zbs_G:Nat→Option CQ:=tblQ [(26,zbt_w),(23,zad_w),(20,zar_w),(38,zas_w),(25,zbu_w),(21,zaq_w),(30,zbv_w)]
theorem zbs_Gok:∀f C,zbs_G f=some C→qAe Tryd.prog f C:=qAj ⟨zbt_ok,zad_ok,zar_ok,zas_ok,zbu_ok,zaq_ok,zbv_ok,tV⟩
def zbs_d0:=(dQS (qAa (dSO 1 dS) (qAa (dSO 2 dS) (qAa (dSO 7 (dH 0 0)) (qAa (dSO 8 dZ) (qAa (dSO 9 (dO 1)) (qAa (dSO 61 dB) dNil)))))) (qAa (qCn 51 zDJW2) (qAa (dRow .node 46) zDJW9)))
def zbs_l0:SubQ:=mkL zbs_d0 (fun x=>zbs_p0 x.1.2.2.2.2.2.1) fun x r R kn kx kr=>(Sum.elim (fun (r_0:Bool)=>kr ⟨[sL 6 (.vB r_0)],[],[]⟩) (fun (r_1:Unit)=>kn ⟨[sL 1 (.vS x.1.1),sL 2 (.vS x.1.2.1),sL 7 (.hd 0 0),sL 8 (.vI x.1.2.2.2.1),sL 9 (.own 1)],[],[.cells 51 [.own 2,.vS x.2.1.2.1,.vB x.2.1.2.2.1,.vS x.2.1.2.2.2.1,.vB x.2.1.2.2.2.2.1,.own 3,.vB x.2.1.2.2.2.2.2.2.1,.vS x.2.1.2.2.2.2.2.2.2.1,.vB x.2.1.2.2.2.2.2.2.2.2.1,.vB x.2.1.2.2.2.2.2.2.2.2.2.1,.vI x.2.1.2.2.2.2.2.2.2.2.2.2.1,.vB x.2.1.2.2.2.2.2.2.2.2.2.2.2.1,.vI x.2.1.2.2.2.2.2.2.2.2.2.2.2.2.1,.vB x.2.1.2.2.2.2.2.2.2.2.2.2.2.2.2.1,.vI x.2.1.2.2.2.2.2.2.2.2.2.2.2.2.2.2.1],.row .node 46 x.2.2.1,.row .node 46 x.2.2.2.1,.row .str 9 x.2.2.2.2.1]⟩)) r
def zbs_d2:=(dQS (qAa (dSO 7 (dH 0 0)) (qAa (dSO 18 (dH 1 0)) dNil)) (qAa (qCn 51 zDJW2) (qAa (qCn 51 (qAa (dO 4) zDJW7)) (qAa (dRow .node 46) (qAa (dRow .str 9) (qAa (dPart0 2 6) (qAa (dRow .str 9) dNil)))))))
def zbs_l2:SubQ:=mkL zbs_d2 (fun x=>zbs_p2 x.2.1.2.1 x.2.1.2.2.1 x.2.1.2.2.2.1 x.2.1.2.2.2.2.1 x.2.1.2.2.2.2.2.2.1 x.2.1.2.2.2.2.2.2.2.1 x.2.1.2.2.2.2.2.2.2.2.1 x.2.1.2.2.2.2.2.2.2.2.2.1 x.2.1.2.2.2.2.2.2.2.2.2.2.1 x.2.1.2.2.2.2.2.2.2.2.2.2.2.1 x.2.1.2.2.2.2.2.2.2.2.2.2.2.2.1 x.2.1.2.2.2.2.2.2.2.2.2.2.2.2.2.1 x.2.1.2.2.2.2.2.2.2.2.2.2.2.2.2.2.1 x.2.2.1.2.1 x.2.2.1.2.2.1 x.2.2.1.2.2.2.1 x.2.2.1.2.2.2.2.1 x.2.2.1.2.2.2.2.2.2.1 x.2.2.1.2.2.2.2.2.2.2.1 x.2.2.1.2.2.2.2.2.2.2.2.1 x.2.2.1.2.2.2.2.2.2.2.2.2.1 x.2.2.1.2.2.2.2.2.2.2.2.2.2.1 x.2.2.1.2.2.2.2.2.2.2.2.2.2.2.1 x.2.2.1.2.2.2.2.2.2.2.2.2.2.2.2.1 x.2.2.1.2.2.2.2.2.2.2.2.2.2.2.2.2.1 x.2.2.1.2.2.2.2.2.2.2.2.2.2.2.2.2.2.1 x.2.2.2.1 x.2.2.2.2.1 x.2.2.2.2.2.1 x.2.2.2.2.2.2.1) fun x r R kn kx kr=>kr ⟨[sL 6 (.vB r)],[],[]⟩
def zbs_d1:=(dQS (qAa (dSO 1 dS) (qAa (dSO 2 dS) (qAa (dSO 7 (dH 0 0)) (qAa (dSO 8 dZ) (qAa (dSO 9 (dO 1)) dNil))))) (qAa (qCn 51 zDJW2) (qAa (dRow .node 46) zDJW9)))
def zbs_l1:SubQ:=mkL zbs_d1 (fun x=>qFw x.1.1 x.1.2.1 x.1.2.2.2.1 x.2.1.2.1 x.2.1.2.2.1 x.2.1.2.2.2.1 x.2.1.2.2.2.2.1 x.2.1.2.2.2.2.2.2.1 x.2.1.2.2.2.2.2.2.2.1 x.2.1.2.2.2.2.2.2.2.2.1 x.2.1.2.2.2.2.2.2.2.2.2.1 x.2.1.2.2.2.2.2.2.2.2.2.2.1 x.2.1.2.2.2.2.2.2.2.2.2.2.2.1 x.2.1.2.2.2.2.2.2.2.2.2.2.2.2.1 x.2.1.2.2.2.2.2.2.2.2.2.2.2.2.2.1 x.2.1.2.2.2.2.2.2.2.2.2.2.2.2.2.2.1 x.2.2.1 x.2.2.2.1 x.2.2.2.2.1) fun x r R kn kx kr=>kr ⟨[sL 6 (.vB r)],[],[]⟩
def zbs_L:Nat→SubQ:=tblL [(0,zbs_l0),(2,zbs_l2),(1,zbs_l1)]
theorem zbs_sub0:qBu zbs_L zbs_G 0 61 120 0 zbs_b0:=qAw (show zbs_L 0=zbs_l0 from by kernel_rfl) fun x R kn kx kr=>by
 simp only [zbs_p0,-eq_self,qAc,qAg,obA,obS,slL,slR,qAd];kernel_rfl
theorem zbs_sub2:qBu zbs_L zbs_G 0 61 120 2 zbs_b2:=qAw (show zbs_L 2=zbs_l2 from by kernel_rfl) fun x R kn kx kr=>by
 simp only [zbs_p2,-eq_self,qAc,qAg,obA,obS,slL,slR,qAd];kernel_rfl
theorem zbs_sub1:qBu zbs_L zbs_G 0 61 120 1 zbs_b1:=qAw (show zbs_L 1=zbs_l1 from by kernel_rfl) fun x R kn kx kr=>by
 simp only [qFw,-eq_self,qAc,qAg,obA,obS,slL,slR,qAd];kernel_rfl
theorem zbs_subs:qAq zbs_L zbs_G 0 61 120 zbs_q:=qAl (show qAs zbs_L zbs_G 0 61 120 [(0,zbs_b0),(1,zbs_b1),(2,zbs_b2)] from ⟨zbs_sub0,zbs_sub1,zbs_sub2,tV⟩)
def zbs_da:=(qAa (dVC (dCO dS)) (qAa (dVC (dCO dS)) (qAa (dVC (dCO dS)) dNil)))
def zbs_db:=(dNil:Dec Unit (List SB))
def zbs_c:CS:=mkC zbs_da zbs_db (fun x y=>zbs_s x.1 x.2.1 x.2.2.1) (fun x y r=>.c (.o (.vB r))) fun x y r=>[]
theorem zbs_val:qAn Tryd.prog 12 zbs_c:=qAo zbs_chk 61 zbs_Gok 0 (fun x=>Nat.le_of_ble_eq_true rfl) (fun y=>rfl) zbs_subs fun x y=>by
 simp only [zbs_s,-eq_self,qAc,qAg,obA,obS,slL,slR,qAd];kernel_rfl
end
end Go.Proofs.YticplgndjpljiaaDoor
