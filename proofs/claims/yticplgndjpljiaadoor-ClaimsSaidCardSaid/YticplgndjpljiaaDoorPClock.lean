/-
  Clocks and windows in plain numbers. No program.
-/
import Derived.Test.YticplgndjpljiaaDoorEngO
import Derived.Test.YticplgndjpljiaaDoorProg
import Derived.Test.YticplgndjpljiaaDoorPShape
import Derived.Test.YticplgndjpljiaaDoorGC
import Derived.Test.YticplgndjpljiaaDoorPShaped
import Derived.Test.YticplgndjpljiaaDoorJP
import Derived.Test.YticplgndjpljiaaDoorPLexQ
import Derived.Test.YticplgndjpljiaaDoorJW
import Derived.Test.YticplgndjpljiaaDoorPClaims
namespace Go.Proofs.YticplgndjpljiaaDoor
open Go.Eng
set_option linter.unusedVariables false
set_option linter.unusedSimpArgs false
set_option maxRecDepth 100000
noncomputable section
structure qHs where
 empty:Bool
 from_:Int
 to_:Int
structure qH0 where
 algs:(List BA)
 iss:BA
 hasIss:Bool
 aud:BA
 hasAud:Bool
 typ:BA
 hasTyp:Bool
 leeway:Int
 need:(List BA)
structure qId where
 high:Int
 low:Int
def zaf_q:IQ:=(.seq (rg 4 [oP 4 (.mv (vI 0))]) (.seq (.block 0 (.seq (rg 5 [oM 6 t1,oP 7 (.bi .gtr t6 (vI 0)),oM 8 t7,oF 9 (.mv t0) 8,oF 10 (.mv t1) 8,oF 11 (.bi .sub (vI 9223372036854775807) t10) 8,oF 12 (.bi .gtr t9 t11) 8,oP 13 (.pick t8 t12 vF),oM 5 t13]) (.cond t5 (.seq (rg 4 [oP 4 (.mv (vI 9223372036854775807))]) (.cn [4] .ret)) (.seq (rg 14 [oM 15 t1,oP 16 (.bi .lss t15 (vI 0)),oM 17 t16,oF 18 (.mv t0) 17,oF 19 (.mv t1) 17,oF 20 (.bi .sub (.v (.int .i64 (-9223372036854775808))) t19) 17,oF 21 (.bi .lss t18 t20) 17,oP 22 (.pick t17 t21 vF),oM 14 t22]) (.cond t14 (.seq (rg 4 [oP 4 (.mv (.v (.int .i64 (-9223372036854775808))))]) (.cn [4] .ret)) .skip))))) (.seq (rg 4 [oM 23 t0,oM 24 t1,oP 25 (.bi .add t23 t24),oM 4 t25]) (.cn [4] .ret))))
theorem zaf_chk:chk Tryd.prog 62 []=some (zaf_q.erase,[.tmp 4],26):=by kernel_rfl
def zaf_s (a b:Int):Option Int :=
 gd ((decide ((0:Int)<b))=true→qAc ((9223372036854775807:Int) - b)) <|
 bif ((decide ((0:Int)<b)) && (decide (((9223372036854775807:Int) - b)<a))) then (
  some (9223372036854775807:Int))
 else (
  gd ((decide (b<(0:Int)))=true→qAc ((-9223372036854775808:Int) - b)) <|
  bif ((decide (b<(0:Int))) && (decide (a<((-9223372036854775808:Int) - b)))) then (
   some (-9223372036854775808:Int))
  else (
   gd (qAc (a+b)) <|
   some (a+b)))
def zaf_G:Nat→Option CQ:=tblQ []
theorem zaf_Gok:∀f C,zaf_G f=some C→qAg Tryd.prog f C:=fun f C h=>by cases h
def zaf_L:Nat→SubQ:=tblL []
theorem zaf_subs:qAp zaf_L zaf_G 0 5 26 zaf_q:=qAm (show qAt zaf_L zaf_G 0 5 26 [] from tV)
def zaf_da:=(qAa (dVC (dCO dZ)) (qAa (dVC (dCO dZ)) dNil))
def zaf_db:=(dNil:Dec Unit (List SB))
def zaf_c:CS:=mkC zaf_da zaf_db (fun x y=>zaf_s x.1 x.2.1) (fun x y r=>.c (.o (.vI r))) fun x y r=>[]
theorem zaf_val:qAn Tryd.prog 62 zaf_c:=qAo zaf_chk 5 zaf_Gok 0 (fun x=>Nat.le_of_ble_eq_true rfl) (fun y=>rfl) zaf_subs fun x y=>by
 simp only [zaf_s,-eq_self,qAe,qAh,obA,obS,slL,slR,qAd]
 kernel_rfl
def zaf_w:CQ:=qD7 [] zaf_c
theorem zaf_ok:qAg Tryd.prog 62 zaf_w:=qBg zaf_val
def zac_b1:IQ:=(.loop [1,4,6,7,39,40,41] (.seq (rg 42 [oP 42 (.bi .lss t41 t40)]) (.seq (.cond t42 .skip (.cn [4,6,7] (.exit 0))) (.seq (.block 1 (.seq (rg 0 [oP 43 (.iaddr 2 t39 t41),oP 44 (.load (some 2) t43),oP 9 (.alloc 49 [.bool false,.int .i64 0]),oN (.store 2 t9 t44)]) (.seq (rg 46 [oP 45 (.faddr 0 t9),oP 46 (.load none t45)]) (.cond t46 (rg 6 [oM 47 t6,oP 48 (.faddr 1 t9),oP 49 (.load none t48),oM 50 t1,oP 51 (.un .neg t50),oP 52 (.call 62 [t49,t51]),oP 53 (.mm true t47 t52),oM 6 t53]) .skip)))) (rg 41 [oP 54 (.bi .add t41 (vI 1)),oM 41 t54])))))
def zac_b0:IQ:=(.seq (.seq (rg 41 [oP 35 (.faddr 11 t2),oP 36 (.load (some 2) t35),oP 37 (.faddr 13 t2),oP 38 (.load (some 2) t37),oP 39 (.bslice 49 2 2 [.bool false,.int .i64 0] [(0,t36),(1,t38)]),oP 40 (.len t39),oP 41 (.mv (vI 0))]) (.block 0 (.cn [1,4,6,7,39,40,41] (.sub 1 zac_b1)))) (.seq (.seq (rg 57 [oM 55 t7,oM 56 t6,oP 57 (.bi .lss t55 t56)]) (.cond t57 (.seq (rg 5 [oP 58 (.build [.bool false,.int .i64 0,.int .i64 0] [(0,1,vT)]),oN (.store 3 t4 t58),oP 5 (.mv (vI 0))]) (.cn [4,5] .ret)) .skip)) (.seq (rg 5 [oM 59 t6,oM 60 t7,oP 61 (.build [.bool false,.int .i64 0,.int .i64 0] [(1,1,t59),(2,1,t60)]),oN (.store 3 t4 t61),oP 5 (.mv (vI 0))]) (.cn [4,5] .ret))))
def zac_q:IQ:=(.seq (rg 5 [oP 2 (.box 51 15 t0),oP 4 (.alloc 68 [.bool false,.int .i64 0,.int .i64 0]),oP 5 (.mv (vI 0))]) (.seq (.seq (rg 15 [oM 10 t1,oP 11 (.bi .lss t10 (vI 0)),oM 12 t11,oE 13 (.mv t1) 12,oE 14 (.bi .gtr t13 (vI 600)) 12,oP 15 (.pick t12 vT t14)]) (.cond t15 (.seq (rg 5 [oP 16 (.build [.bool false,.int .i64 0,.int .i64 0] []),oN (.store 3 t4 t16),oP 5 (.mv (vI 12))]) (.cn [4,5] .ret)) .skip)) (.seq (rg 7 [oP 6 (.mv (.v (.int .i64 (-9223372036854775808)))),oP 7 (.mv (vI 9223372036854775807))]) (.seq (.seq (rg 19 [oP 17 (.faddr 9 t2),oP 18 (.faddr 0 t17),oP 19 (.load none t18)]) (.cond t19 (.seq (.seq (rg 27 [oP 20 (.faddr 9 t2),oP 21 (.faddr 1 t20),oP 22 (.load none t21),oP 23 (.bi .eql t22 (.v (.int .i64 (-9223372036854775808)))),oM 24 t23,oF 25 (.mv t1) 24,oF 26 (.bi .eql t25 (vI 0)) 24,oP 27 (.pick t24 t26 vF)]) (.cond t27 (.seq (rg 5 [oP 28 (.build [.bool false,.int .i64 0,.int .i64 0] [(0,1,vT)]),oN (.store 3 t4 t28),oP 5 (.mv (vI 0))]) (.cn [4,5] .ret)) .skip)) (rg 7 [oP 29 (.faddr 9 t2),oP 30 (.faddr 1 t29),oP 31 (.load none t30),oM 32 t1,oP 33 (.bi .sub t32 (vI 1)),oP 34 (.call 62 [t31,t33]),oM 7 t34])) .skip)) (.cn [1,2,4,6,7] (.sub 0 zac_b0))))))
theorem zac_chk:chk Tryd.prog 36 []=some (zac_q.erase,[.cell 4 (some 3),.tmp 5],62):=by kernel_rfl
def qFp (leeway from_ x40_ x41_:Int) (x39_:List Eng.Tm):Option ((Int × Int) ⊕ Int) :=
 bif decide (x41_<x40_) then (
  gd (0≤x41_∧x41_<x39_.length) <|
  gd ((Int.toNat x41_)<x39_.length) <|
  bif (x39_.getD (Int.toNat x41_) (ET.dft .tm)).has then (
   gd (qAc (0 - leeway)) <|
   (zaf_s ((x39_.getD (Int.toNat x41_) (ET.dft .tm)).at_) (0 - leeway)).bind fun r6 =>
   gd (qAc (x41_+(1:Int))) <|
   some (.inl ((if r6 > from_ then r6 else from_),(x41_+(1:Int)))))
  else (
   gd (qAc (x41_+(1:Int))) <|
   some (.inl (from_,(x41_+(1:Int))))))
 else (
  some (.inr from_))
def zac_p1 (leeway from_ x40_ x41_:Int) (x39_:List Eng.Tm):Option Int :=
 qBa (fun x:(Int × Int)=>qFp leeway x.1 x40_ x.2 x39_) (from_,x41_)
def zac_p0 (leeway from_ to_:Int) (qHl:Bool) (qHo:Int) (qHm:Bool) (qHp:Int):Option (Int × Bool × Int × Int) :=
 (zac_p1 leeway from_ ([(⟨qHl,qHo⟩:Eng.Tm),(⟨qHm,qHp⟩:Eng.Tm)].length:Int) (0:Int) [(⟨qHl,qHo⟩:Eng.Tm),(⟨qHm,qHp⟩:Eng.Tm)]).bind fun o7 =>
 bif decide (to_<o7) then (
  some ((0:Int),true,(0:Int),(0:Int)))
 else (
  some ((0:Int),false,o7,to_))
def zac_s (c:qHc) (leeway:Int):Option (qHs × Int) :=
 bif ((decide (leeway<(0:Int))) || (decide ((600:Int)<leeway))) then (
  some ((⟨false,(0:Int),(0:Int)⟩:qHs),(12:Int)))
 else (
  bif c.exp_.has then (
   bif ((decide (c.exp_.at_=(-9223372036854775808:Int))) && (decide (leeway=(0:Int)))) then (
    some ((⟨true,(0:Int),(0:Int)⟩:qHs),(0:Int)))
   else (
    gd (qAc (leeway - (1:Int))) <|
    (zaf_s c.exp_.at_ (leeway - (1:Int))).bind fun r5 =>
    (zac_p0 leeway (-9223372036854775808:Int) r5 c.nbf.has c.nbf.at_ c.iat.has c.iat.at_).bind fun o8 =>
    some ((⟨o8.2.1,o8.2.2.1,o8.2.2.2⟩:qHs),o8.1)))
  else (
   (zac_p0 leeway (-9223372036854775808:Int) (9223372036854775807:Int) c.nbf.has c.nbf.at_ c.iat.has c.iat.at_).bind fun o9 =>
   some ((⟨o9.2.1,o9.2.2.1,o9.2.2.2⟩:qHs),o9.1)))
def zac_G:Nat→Option CQ:=tblQ [(62,zaf_w)]
theorem zac_Gok:∀f C,zac_G f=some C→qAg Tryd.prog f C:=qAl ⟨zaf_ok,tV⟩
def zac_d1:=(dQS (qAa (dSO 1 dZ) (qAa (dSO 4 (dH 2 0)) (qAa (dSO 6 dZ) (qAa (dSO 7 dZ) (qAa (dSO 39 (dO 3)) (qAa (dSO 40 dZ) (qAa (dSO 41 dZ) dNil))))))) (qAa (qAu .node) (qAa (qAu .str) (qAa (qAs 68 (qAa dB (qAa dZ (qAa dZ dNil)))) (qAa (dRow .tm 49) dNil)))))
def zac_l1:SubQ:=mkL zac_d1 (fun x=>zac_p1 x.1.1 x.1.2.2.1 x.1.2.2.2.2.2.1 x.1.2.2.2.2.2.2.1 x.2.2.2.2.1) fun x r R kn kx kr=>kx 0 ⟨[sL 4 (.hd 2 0),sL 6 (.vI r),sL 7 (.vI x.1.2.2.2.1)],[],[.view .node x.2.1,.view .str x.2.2.1,.cells 68 [.vB x.2.2.2.1.1,.vI x.2.2.2.1.2.1,.vI x.2.2.2.1.2.2.1]]⟩
def zac_d0:=(dQS (qAa (dSO 1 dZ) (qAa (dSO 2 (dH 2 0)) (qAa (dSO 4 (dH 3 0)) (qAa (dSO 6 dZ) (qAa (dSO 7 dZ) dNil))))) (qAa (qAu .node) (qAa (qAu .str) (qAa (qAs 51 (qAa (dO 0) (qAa dS (qAa dB (qAa dS (qAa dB (qAa (dO 1) (qAa dB (qAa dS (qAa dB (qAa dB (qAa dZ (qAa dB (qAa dZ (qAa dB (qAa dZ dNil)))))))))))))))) (qAa (qAs 68 (qAa dB (qAa dZ (qAa dZ dNil)))) dNil)))))
def zac_l0:SubQ:=mkL zac_d0 (fun x=>zac_p0 x.1.1 x.1.2.2.2.1 x.1.2.2.2.2.1 x.2.2.2.1.2.2.2.2.2.2.2.2.2.2.2.1 x.2.2.2.1.2.2.2.2.2.2.2.2.2.2.2.2.1 x.2.2.2.1.2.2.2.2.2.2.2.2.2.2.2.2.2.1 x.2.2.2.1.2.2.2.2.2.2.2.2.2.2.2.2.2.2.1) fun x r R kn kx kr=>kr ⟨[sL 4 (.hd 2 0),sL 5 (.vI r.1)],[],[.view .node x.2.1,.view .str x.2.2.1,.cells 68 [.vB r.2.1,.vI r.2.2.1,.vI r.2.2.2]]⟩
def zac_L:Nat→SubQ:=tblL [(1,zac_l1),(0,zac_l0)]
theorem zac_sub1:qCf zac_L zac_G 2 42 62 1 zac_b1:=qAy (show zac_L 1=zac_l1 from by kernel_rfl) fun x R kn kx kr=>qAw (step:=fun y=>qFp x.1.1 y.1 x.1.2.2.2.2.2.1 y.2 x.2.2.2.2.1) (enc:=fun (y:Int × Int)=>zac_d1.e ((x.1.1,x.1.2.1,y.1,x.1.2.2.2.1,x.1.2.2.2.2.1,x.1.2.2.2.2.2.1,y.2,x.1.2.2.2.2.2.2.2),x.2)) (fun y=>by kernel_rfl) (fun y ki=>by simp only [qFp,-eq_self,qAe,qAh,obA,obS,slL,slR,qAd]; kernel_rfl) (x.1.2.2.1,x.1.2.2.2.2.2.2.1)
theorem zac_sub0:qCf zac_L zac_G 2 42 62 0 zac_b0:=qAy (show zac_L 0=zac_l0 from by kernel_rfl) fun x R kn kx kr=>by
 simp only [zac_p0,-eq_self,qAe,qAh,obA,obS,slL,slR,qAd]
 kernel_rfl
theorem zac_subs:qAp zac_L zac_G 2 42 62 zac_q:=qAm (show qAt zac_L zac_G 2 42 62 [(0,zac_b0),(1,zac_b1)] from ⟨zac_sub0,zac_sub1,tV⟩)
def zac_da:=(qAa (dVC (dCA (qAa (dO 0) (qAa dS (qAa dB (qAa dS (qAa dB (qAa (dO 1) (qAa dB (qAa dS (qAa dB (qAa dB (qAa dZ (qAa dB (qAa dZ (qAa dB (qAa dZ dNil))))))))))))))))) (qAa (dVC (dCO dZ)) dNil))
def zac_db:=(qAa (qAu .node) (qAa (qAu .str) dNil))
def zac_c:CS:=mkC zac_da zac_db (fun x y=>zac_s (⟨y.1,x.1.2.1,x.1.2.2.1,x.1.2.2.2.1,x.1.2.2.2.2.1,y.2.1,x.1.2.2.2.2.2.2.1,x.1.2.2.2.2.2.2.2.1,x.1.2.2.2.2.2.2.2.2.1,(⟨x.1.2.2.2.2.2.2.2.2.2.1,x.1.2.2.2.2.2.2.2.2.2.2.1⟩:qHf),(⟨x.1.2.2.2.2.2.2.2.2.2.2.2.1,x.1.2.2.2.2.2.2.2.2.2.2.2.2.1⟩:qHf),(⟨x.1.2.2.2.2.2.2.2.2.2.2.2.2.2.1,x.1.2.2.2.2.2.2.2.2.2.2.2.2.2.2.1⟩:qHf)⟩:qHc) x.2.1) (fun x y r=>.tup [.agg [.vB r.1.empty,.vI r.1.from_,.vI r.1.to_],.o (.vI r.2)]) fun x y r=>[.view .node y.1,.view .str y.2.1]
theorem zac_val:qAn Tryd.prog 36 zac_c:=qAo zac_chk 42 zac_Gok 2 (fun x=>Nat.le_of_ble_eq_true rfl) (fun y=>rfl) zac_subs fun x y=>by
 simp only [zac_s,-eq_self,qAe,qAh,obA,obS,slL,slR,qAd]
 kernel_rfl
def zac_w:CQ:=qCa [(0,some 0,some (.node,46)),(0,some 5,some (.str,9))] (qD7 [false,false] zac_c)
theorem zac_ok:qAg Tryd.prog 36 zac_w:=qB7 zac_val
def zbt_b0:IQ:=(.loop [0,1,7,8] (.seq (rg 9 [oP 9 (.bi .lss t8 t7)]) (.seq (.cond t9 .skip (.cn [] (.exit 0))) (.seq (.block 1 (.seq (rg 5 [oM 10 t8,oM 5 t10]) (.seq (rg 16 [oM 11 t1,oM 12 t0,oM 13 t5,oP 14 (.iaddr 1 t12 t13),oP 15 (.load none t14),oP 16 (.bi .eql t11 t15)]) (.cond t16 (.seq (rg 4 [oM 17 t5,oM 4 t17]) (.cn [4] .ret)) .skip)))) (rg 8 [oP 18 (.bi .add t8 (vI 1)),oM 8 t18])))))
def zbt_q:IQ:=(.seq (rg 4 [oP 4 (.mv (vI 0))]) (.seq (.seq (rg 8 [oM 6 t0,oP 7 (.len t6),oP 8 (.mv (vI 0))]) (.block 0 (.cn [0,1,7,8] (.sub 0 zbt_b0)))) (.seq (rg 4 [oP 4 (.mv (.v (.int .i64 (-1))))]) (.cn [4] .ret))))
theorem zbt_chk:chk Tryd.prog 76 []=some (zbt_q.erase,[.tmp 4],19):=by kernel_rfl
def qDn (v:BA) (x7_ x8_:Int) (s:List BA):Option (Int ⊕ (Int ⊕ Unit)) :=
 bif decide (x8_<x7_) then (
  gd (0≤x8_∧x8_<s.length) <|
  gd ((Int.toNat x8_)<s.length) <|
  bif decide (v=(s.getD (Int.toNat x8_) (ET.dft .str))) then (
   some (.inr (.inl x8_)))
  else (
   gd (qAc (x8_+(1:Int))) <|
   some (.inl (x8_+(1:Int)))))
 else (
  some (.inr (.inr ())))
def zbt_p0 (v:BA) (x7_ x8_:Int) (s:List BA):Option (Int ⊕ Unit) :=
 qBa (fun x:Int=>qDn v x7_ x s) x8_
def zbt_s (s:(List BA)) (v:BA):Option Int :=
 (zbt_p0 v (s.length:Int) (0:Int) s).bind fun o1=>(Sum.elim (fun (o1_0:Int) =>
  some o1_0) (fun (o1_1:Unit) =>
  some (-1:Int))) o1
def zbt_G:Nat→Option CQ:=tblQ []
theorem zbt_Gok:∀f C,zbt_G f=some C→qAg Tryd.prog f C:=fun f C h=>by cases h
def zbt_d0:=(dQS (qAa (dSO 0 (dO 0)) (qAa (dSO 1 dS) (qAa (dSO 7 dZ) (qAa (dSO 8 dZ) dNil)))) (qAa (qAu .str) dNil))
def zbt_l0:SubQ:=mkL zbt_d0 (fun x=>zbt_p0 x.1.2.1 x.1.2.2.1 x.1.2.2.2.1 x.2.1) fun x r R kn kx kr=>(Sum.elim (fun (r_0:Int)=>kr ⟨[sL 4 (.vI r_0)],[],[.view .str x.2.1]⟩) (fun (r_1:Unit)=>kx 0 ⟨[],[],[.view .str x.2.1]⟩)) r
def zbt_L:Nat→SubQ:=tblL [(0,zbt_l0)]
theorem zbt_sub0:qCf zbt_L zbt_G 1 9 19 0 zbt_b0:=qAy (show zbt_L 0=zbt_l0 from by kernel_rfl) fun x R kn kx kr=>qAw (step:=fun y=>qDn x.1.2.1 x.1.2.2.1 y x.2.1) (enc:=fun (y:Int)=>zbt_d0.e ((x.1.1,x.1.2.1,x.1.2.2.1,y,x.1.2.2.2.2),x.2)) (fun y=>by kernel_rfl) (fun y ki=>by simp only [qDn,-eq_self,qAe,qAh,obA,obS,slL,slR,qAd]; kernel_rfl) x.1.2.2.2.1
theorem zbt_subs:qAp zbt_L zbt_G 1 9 19 zbt_q:=qAm (show qAt zbt_L zbt_G 1 9 19 [(0,zbt_b0)] from ⟨zbt_sub0,tV⟩)
def zbt_da:=(qAa (dVC (dCO (dO 0))) (qAa (dVC (dCO dS)) dNil))
def zbt_db:=(qAa (qAu .str) dNil)
def zbt_c:CS:=mkC zbt_da zbt_db (fun x y=>zbt_s y.1 x.2.1) (fun x y r=>.c (.o (.vI r))) fun x y r=>[.view .str y.1]
theorem zbt_val:qAn Tryd.prog 76 zbt_c:=qAo zbt_chk 9 zbt_Gok 1 (fun x=>Nat.le_of_ble_eq_true rfl) (fun y=>rfl) zbt_subs fun x y=>by
 simp only [zbt_s,-eq_self,qAe,qAh,obA,obS,slL,slR,qAd]
 kernel_rfl
def zbt_w:CQ:=qCa [(0,none,some (.str,9))] (qD7 [false] zbt_c)
theorem zbt_ok:qAg Tryd.prog 76 zbt_w:=qB7 zbt_val
def zbs_q:IQ:=(.seq (rg 4 [oP 4 (.mv vF)]) (.seq (rg 4 [oM 5 t0,oM 6 t1,oP 7 (.call 76 [t5,t6]),oP 8 (.bi .geq t7 (vI 0)),oM 4 t8]) (.cn [4] .ret)))
theorem zbs_chk:chk Tryd.prog 52 []=some (zbs_q.erase,[.tmp 4],9):=by kernel_rfl
def zbs_s (s:(List BA)) (v:BA):Option Bool :=
 (zbt_s s v).bind fun r1 =>
 some (decide ((0:Int)≤r1))
def zbs_G:Nat→Option CQ:=tblQ [(76,zbt_w)]
theorem zbs_Gok:∀f C,zbs_G f=some C→qAg Tryd.prog f C:=qAl ⟨zbt_ok,tV⟩
def zbs_L:Nat→SubQ:=tblL []
theorem zbs_subs:qAp zbs_L zbs_G 1 5 9 zbs_q:=qAm (show qAt zbs_L zbs_G 1 5 9 [] from tV)
def zbs_da:=(qAa (dVC (dCO (dO 0))) (qAa (dVC (dCO dS)) dNil))
def zbs_db:=(qAa (qAu .str) dNil)
def zbs_c:CS:=mkC zbs_da zbs_db (fun x y=>zbs_s y.1 x.2.1) (fun x y r=>.c (.o (.vB r))) fun x y r=>[.view .str y.1]
theorem zbs_val:qAn Tryd.prog 52 zbs_c:=qAo zbs_chk 5 zbs_Gok 1 (fun x=>Nat.le_of_ble_eq_true rfl) (fun y=>rfl) zbs_subs fun x y=>by
 simp only [zbs_s,-eq_self,qAe,qAh,obA,obS,slL,slR,qAd]
 kernel_rfl
def zbs_w:CQ:=qCa [(0,none,some (.str,9))] (qD7 [false] zbs_c)
theorem zbs_ok:qAg Tryd.prog 52 zbs_w:=qB7 zbs_val
def zaa_b0:IQ:=(.loop [2,3,8,9,10] (.seq (rg 11 [oP 11 (.bi .lss t10 t9)]) (.seq (.cond t11 .skip (.cn [2,3] (.exit 0))) (.seq (.block 1 (.seq (rg 6 [oP 12 (.iaddr 1 t8 t10),oP 13 (.load none t12),oM 6 t13]) (.seq (rg 18 [oP 14 (.faddr 0 t2),oP 15 (.load none t14),oM 16 t6,oP 17 (.call 21 [t15,(vI 0),t16]),oP 18 (.bi .lss t17 (vI 0))]) (.cond t18 (.seq (rg 4 [oP 4 (.mv (vI 137))]) (.cn [4] .ret)) .skip)))) (rg 10 [oP 19 (.bi .add t10 (vI 1)),oM 10 t19])))))
def zaa_q:IQ:=(.seq (rg 4 [oP 2 (.box 51 15 t0),oP 3 (.box 31 9 t1),oP 4 (.mv (vI 0))]) (.seq (.seq (rg 10 [oP 7 (.faddr 8 t3),oP 8 (.load none t7),oP 9 (.len t8),oP 10 (.mv (vI 0))]) (.block 0 (.cn [2,3,8,9,10] (.sub 0 zaa_b0)))) (.seq (.block 2 (.seq (rg 20 [oP 21 (.faddr 2 t3),oP 22 (.load none t21),oM 23 t22,oF 24 (.faddr 2 t2) 23,oF 25 (.load none t24) 23,oF 26 (.mv t25) 23,oF 27 (.faddr 1 t2) 26,oF 28 (.load none t27) 26,oF 29 (.faddr 1 t3) 26,oF 30 (.load none t29) 26,oF 31 (.bi .eql t28 t30) 26,oF 32 (.pick t26 t31 vF) 23,oF 33 (.un .not t32) 23,oP 34 (.pick t23 t33 vF),oM 20 t34]) (.cond t20 (.seq (rg 4 [oP 4 (.mv (vI 132))]) (.cn [4] .ret)) (.seq (.seq (rg 35 [oP 36 (.faddr 4 t3),oP 37 (.load none t36),oM 38 t37,oF 39 (.faddr 6 t2) 38,oF 40 (.load none t39) 38,oF 41 (.mv t40) 38,oF 42 (.faddr 5 t2) 41,oF 43 (.load none t42) 41,oF 44 (.faddr 3 t3) 41,oF 45 (.load none t44) 41,oF 46 (.call 52 [t43,t45]) 41,oF 47 (.pick t41 t46 vF) 38,oF 48 (.un .not t47) 38,oP 49 (.pick t38 t48 vF),oM 35 t49]) (.cond t35 .skip (rg 35 [oP 50 (.faddr 4 t3),oP 51 (.load none t50),oP 52 (.un .not t51),oM 53 t52,oF 54 (.faddr 6 t2) 53,oF 55 (.load none t54) 53,oP 56 (.pick t53 t55 vF),oM 35 t56]))) (.cond t35 (.seq (rg 4 [oP 4 (.mv (vI 133))]) (.cn [4] .ret)) .skip))))) (.seq (rg 4 [oP 4 (.mv (vI 0))]) (.cn [4] .ret)))))
theorem zaa_chk:chk Tryd.prog 34 []=some (zaa_q.erase,[.tmp 4],57):=by kernel_rfl
def qEo (x9_ x10_:Int) (c_value:List Eng.Node) (x8_:List BA):Option (Int ⊕ (Int ⊕ Unit)) :=
 bif decide (x10_<x9_) then (
  gd (0≤x10_∧x10_<x8_.length) <|
  gd ((Int.toNat x10_)<x8_.length) <|
  (zao_s c_value (0:Int) (x8_.getD (Int.toNat x10_) (ET.dft .str))).bind fun r2 =>
  bif decide (r2<(0:Int)) then (
   some (.inr (.inl (137:Int))))
  else (
   gd (qAc (x10_+(1:Int))) <|
   some (.inl (x10_+(1:Int)))))
 else (
  some (.inr (.inr ())))
def zaa_p0 (x9_ x10_:Int) (c_value:List Eng.Node) (x8_:List BA):Option (Int ⊕ Unit) :=
 qBa (fun x:Int=>qEo x9_ x c_value x8_) x10_
def zaa_s (c:qHc) (p:qH0):Option Int :=
 (zaa_p0 (p.need.length:Int) (0:Int) c.value p.need).bind fun o3=>(Sum.elim (fun (o3_0:Int) =>
  some o3_0) (fun (o3_1:Unit) =>
  bif (p.hasIss && (!(c.hasIss && (decide (c.iss=p.iss))))) then (
   some (132:Int))
  else (
   bif p.hasAud then (
    bif c.hasAud then (
     (zbs_s c.aud p.aud).bind fun r4 =>
     bif (!r4) then (
      bif (!r4) then (
       some (133:Int))
      else (
       some (0:Int)))
     else (
      bif ((!p.hasAud) && c.hasAud) then (
       some (133:Int))
      else (
       some (0:Int))))
    else (
     some (133:Int)))
   else (
    bif ((!p.hasAud) && c.hasAud) then (
     some (133:Int))
    else (
     some (0:Int)))))) o3
def zaa_G:Nat→Option CQ:=tblQ [(21,zao_w),(52,zbs_w)]
theorem zaa_Gok:∀f C,zaa_G f=some C→qAg Tryd.prog f C:=qAl ⟨zao_ok,zbs_ok,tV⟩
def zaa_d0:=(dQS (qAa (dSO 2 (dH 4 0)) (qAa (dSO 3 (dH 5 0)) (qAa (dSO 8 (dO 3)) (qAa (dSO 9 dZ) (qAa (dSO 10 dZ) dNil))))) (qAa (qAu .node) (qAa (qAu .str) (qAa (qAu .str) (qAa (qAu .str) (qAa (qAs 51 (qAa (dO 0) (qAa dS (qAa dB (qAa dS (qAa dB (qAa (dO 1) (qAa dB (qAa dS (qAa dB (qAa dB (qAa dZ (qAa dB (qAa dZ (qAa dB (qAa dZ dNil)))))))))))))))) (qAa (qAs 31 (qAa (dO 2) (qAa dS (qAa dB (qAa dS (qAa dB (qAa dS (qAa dB (qAa dZ (qAa (dO 3) dNil)))))))))) dNil)))))))
def zaa_l0:SubQ:=mkL zaa_d0 (fun x=>zaa_p0 x.1.2.2.2.1 x.1.2.2.2.2.1 x.2.1 x.2.2.2.2.1) fun x r R kn kx kr=>(Sum.elim (fun (r_0:Int)=>kr ⟨[sL 4 (.vI r_0)],[],[.view .node x.2.1,.view .str x.2.2.1,.view .str x.2.2.2.1,.view .str x.2.2.2.2.1]⟩) (fun (r_1:Unit)=>kx 0 ⟨[sL 2 (.hd 4 0),sL 3 (.hd 5 0)],[],[.view .node x.2.1,.view .str x.2.2.1,.view .str x.2.2.2.1,.view .str x.2.2.2.2.1,.cells 51 [.own 0,.vS x.2.2.2.2.2.1.2.1,.vB x.2.2.2.2.2.1.2.2.1,.vS x.2.2.2.2.2.1.2.2.2.1,.vB x.2.2.2.2.2.1.2.2.2.2.1,.own 1,.vB x.2.2.2.2.2.1.2.2.2.2.2.2.1,.vS x.2.2.2.2.2.1.2.2.2.2.2.2.2.1,.vB x.2.2.2.2.2.1.2.2.2.2.2.2.2.2.1,.vB x.2.2.2.2.2.1.2.2.2.2.2.2.2.2.2.1,.vI x.2.2.2.2.2.1.2.2.2.2.2.2.2.2.2.2.1,.vB x.2.2.2.2.2.1.2.2.2.2.2.2.2.2.2.2.2.1,.vI x.2.2.2.2.2.1.2.2.2.2.2.2.2.2.2.2.2.2.1,.vB x.2.2.2.2.2.1.2.2.2.2.2.2.2.2.2.2.2.2.2.1,.vI x.2.2.2.2.2.1.2.2.2.2.2.2.2.2.2.2.2.2.2.2.1],.cells 31 [.own 2,.vS x.2.2.2.2.2.2.1.2.1,.vB x.2.2.2.2.2.2.1.2.2.1,.vS x.2.2.2.2.2.2.1.2.2.2.1,.vB x.2.2.2.2.2.2.1.2.2.2.2.1,.vS x.2.2.2.2.2.2.1.2.2.2.2.2.1,.vB x.2.2.2.2.2.2.1.2.2.2.2.2.2.1,.vI x.2.2.2.2.2.2.1.2.2.2.2.2.2.2.1,.own 3]]⟩)) r
def zaa_L:Nat→SubQ:=tblL [(0,zaa_l0)]
theorem zaa_sub0:qCf zaa_L zaa_G 4 11 57 0 zaa_b0:=qAy (show zaa_L 0=zaa_l0 from by kernel_rfl) fun x R kn kx kr=>qAw (step:=fun y=>qEo x.1.2.2.2.1 y x.2.1 x.2.2.2.2.1) (enc:=fun (y:Int)=>zaa_d0.e ((x.1.1,x.1.2.1,x.1.2.2.1,x.1.2.2.2.1,y,x.1.2.2.2.2.2),x.2)) (fun y=>by kernel_rfl) (fun y ki=>by simp only [qEo,-eq_self,qAe,qAh,obA,obS,slL,slR,qAd]; kernel_rfl) x.1.2.2.2.2.1
theorem zaa_subs:qAp zaa_L zaa_G 4 11 57 zaa_q:=qAm (show qAt zaa_L zaa_G 4 11 57 [(0,zaa_b0)] from ⟨zaa_sub0,tV⟩)
def zaa_da:=(qAa (dVC (dCA (qAa (dO 0) (qAa dS (qAa dB (qAa dS (qAa dB (qAa (dO 1) (qAa dB (qAa dS (qAa dB (qAa dB (qAa dZ (qAa dB (qAa dZ (qAa dB (qAa dZ dNil))))))))))))))))) (qAa (dVC (dCA (qAa (dO 2) (qAa dS (qAa dB (qAa dS (qAa dB (qAa dS (qAa dB (qAa dZ (qAa (dO 3) dNil))))))))))) dNil))
def zaa_db:=(qAa (qAu .node) (qAa (qAu .str) (qAa (qAu .str) (qAa (qAu .str) dNil))))
def zaa_c:CS:=mkC zaa_da zaa_db (fun x y=>zaa_s (⟨y.1,x.1.2.1,x.1.2.2.1,x.1.2.2.2.1,x.1.2.2.2.2.1,y.2.1,x.1.2.2.2.2.2.2.1,x.1.2.2.2.2.2.2.2.1,x.1.2.2.2.2.2.2.2.2.1,(⟨x.1.2.2.2.2.2.2.2.2.2.1,x.1.2.2.2.2.2.2.2.2.2.2.1⟩:qHf),(⟨x.1.2.2.2.2.2.2.2.2.2.2.2.1,x.1.2.2.2.2.2.2.2.2.2.2.2.2.1⟩:qHf),(⟨x.1.2.2.2.2.2.2.2.2.2.2.2.2.2.1,x.1.2.2.2.2.2.2.2.2.2.2.2.2.2.2.1⟩:qHf)⟩:qHc) (⟨y.2.2.1,x.2.1.2.1,x.2.1.2.2.1,x.2.1.2.2.2.1,x.2.1.2.2.2.2.1,x.2.1.2.2.2.2.2.1,x.2.1.2.2.2.2.2.2.1,x.2.1.2.2.2.2.2.2.2.1,y.2.2.2.1⟩:qH0)) (fun x y r=>.c (.o (.vI r))) fun x y r=>[.view .node y.1,.view .str y.2.1,.view .str y.2.2.1,.view .str y.2.2.2.1]
theorem zaa_val:qAn Tryd.prog 34 zaa_c:=qAo zaa_chk 11 zaa_Gok 4 (fun x=>Nat.le_of_ble_eq_true rfl) (fun y=>rfl) zaa_subs fun x y=>by
 simp only [zaa_s,-eq_self,qAe,qAh,obA,obS,slL,slR,qAd]
 kernel_rfl
def zaa_w:CQ:=qCa [(0,some 0,some (.node,46)),(0,some 5,some (.str,9)),(1,some 0,some (.str,9)),(1,some 8,some (.str,9))] (qD7 [false,false,false,false] zaa_c)
theorem zaa_ok:qAg Tryd.prog 34 zaa_w:=qB7 zaa_val
def zab_q:IQ:=(.seq (rg 6 [oP 3 (.box 51 15 t0),oP 6 (.mv (vI 0))]) (.seq (.block 0 (.seq (rg 7 [oM 8 t1,oP 9 (.bi .lss t8 (vI 0)),oM 10 t9,oE 11 (.mv t1) 10,oE 12 (.bi .gtr t11 (vI 600)) 10,oP 13 (.pick t10 vT t12),oM 7 t13]) (.cond t7 (.seq (rg 6 [oP 6 (.mv (vI 12))]) (.cn [6] .ret)) (.seq (.reg 14 (some [0,1,2,3,4,5,6,8,9,10,7,11,12,13,14,15,16,17,18,19,20,21,22,23,24,25,26]) [oP 15 (.faddr 9 t3),oP 16 (.faddr 0 t15),oP 17 (.load none t16),oM 18 t17,oF 19 (.mv t2) 18,oF 20 (.mv t1) 18,oF 21 (.un .neg t20) 18,oF 23 (.faddr 9 t3) 18,oF 24 (.faddr 1 t23) 18,oF 25 (.load none t24) 18,oF 22 (.call 62 [t19,t21]) 18,oF 26 (.bi .geq t22 t25) 18,oP 27 (.pick t18 t26 vF),oM 28 t27,oF 29 (.mv t2) 28,oF 30 (.mv t1) 28,oF 31 (.bi .add (.v (.int .i64 (-9223372036854775808))) t30) 28,oF 32 (.bi .lss t29 t31) 28,oF 33 (.mv t32) 28,oF 34 (.faddr 9 t3) 33,oF 35 (.faddr 1 t34) 33,oF 36 (.load none t35) 33,oF 37 (.bi .eql t36 (.v (.int .i64 (-9223372036854775808)))) 33,oF 38 (.pick t33 t37 vF) 28,oF 39 (.un .not t38) 28,oP 40 (.pick t28 t39 vF),oM 14 t40]) (.cond t14 (.seq (rg 6 [oP 6 (.mv (vI 134))]) (.cn [6] .ret)) (.seq (rg 41 [oP 42 (.faddr 11 t3),oP 43 (.faddr 0 t42),oP 44 (.load none t43),oM 45 t44,oF 46 (.mv t2) 45,oF 47 (.faddr 11 t3) 45,oF 48 (.faddr 1 t47) 45,oF 49 (.load none t48) 45,oF 50 (.mv t1) 45,oF 51 (.un .neg t50) 45,oF 52 (.call 62 [t49,t51]) 45,oF 53 (.bi .lss t46 t52) 45,oP 54 (.pick t45 t53 vF),oM 41 t54]) (.cond t41 (.seq (rg 6 [oP 6 (.mv (vI 135))]) (.cn [6] .ret)) (.seq (rg 55 [oP 56 (.faddr 13 t3),oP 57 (.faddr 0 t56),oP 58 (.load none t57),oM 59 t58,oF 60 (.mv t2) 59,oF 61 (.faddr 13 t3) 59,oF 62 (.faddr 1 t61) 59,oF 63 (.load none t62) 59,oF 64 (.mv t1) 59,oF 65 (.un .neg t64) 59,oF 66 (.call 62 [t63,t65]) 59,oF 67 (.bi .lss t60 t66) 59,oP 68 (.pick t59 t67 vF),oM 55 t68]) (.cond t55 (.seq (rg 6 [oP 6 (.mv (vI 136))]) (.cn [6] .ret)) .skip))))))))) (.seq (rg 6 [oP 6 (.mv (vI 0))]) (.cn [6] .ret))))
theorem zab_chk:chk Tryd.prog 35 []=some (zab_q.erase,[.tmp 6],69):=by kernel_rfl
def zab_s (c:qHc) (leeway now:Int):Option Int :=
 bif ((decide (leeway<(0:Int))) || (decide ((600:Int)<leeway))) then (
  some (12:Int))
 else (
  gd (c.exp_.has=true→qAc (0 - leeway)) <|
  (zaf_s now (0 - leeway)).bind fun r1 =>
  gd ((c.exp_.has && (decide (c.exp_.at_≤r1)))=true→qAc ((-9223372036854775808:Int)+leeway)) <|
  bif ((c.exp_.has && (decide (c.exp_.at_≤r1))) && (!((decide (now<((-9223372036854775808:Int)+leeway))) && (decide (c.exp_.at_=(-9223372036854775808:Int)))))) then (
   some (134:Int))
  else (
   gd (c.nbf.has=true→qAc (0 - leeway)) <|
   bif c.nbf.has then (
    (zaf_s c.nbf.at_ (0 - leeway)).bind fun r2 =>
    bif decide (now<r2) then (
     some (135:Int))
    else (
     gd (c.iat.has=true→qAc (0 - leeway)) <|
     bif c.iat.has then (
      (zaf_s c.iat.at_ (0 - leeway)).bind fun r3 =>
      bif decide (now<r3) then (
       some (136:Int))
      else (
       some (0:Int)))
     else (
      some (0:Int))))
   else (
    gd (c.iat.has=true→qAc (0 - leeway)) <|
    bif c.iat.has then (
     (zaf_s c.iat.at_ (0 - leeway)).bind fun r4 =>
     bif decide (now<r4) then (
      some (136:Int))
     else (
      some (0:Int)))
    else (
     some (0:Int)))))
def zab_G:Nat→Option CQ:=tblQ [(62,zaf_w)]
theorem zab_Gok:∀f C,zab_G f=some C→qAg Tryd.prog f C:=qAl ⟨zaf_ok,tV⟩
def zab_L:Nat→SubQ:=tblL []
theorem zab_subs:qAp zab_L zab_G 2 7 69 zab_q:=qAm (show qAt zab_L zab_G 2 7 69 [] from tV)
def zab_da:=(qAa (dVC (dCA (qAa (dO 0) (qAa dS (qAa dB (qAa dS (qAa dB (qAa (dO 1) (qAa dB (qAa dS (qAa dB (qAa dB (qAa dZ (qAa dB (qAa dZ (qAa dB (qAa dZ dNil))))))))))))))))) (qAa (dVC (dCO dZ)) (qAa (dVC (dCO dZ)) dNil)))
def zab_db:=(qAa (qAu .node) (qAa (qAu .str) dNil))
def zab_c:CS:=mkC zab_da zab_db (fun x y=>zab_s (⟨y.1,x.1.2.1,x.1.2.2.1,x.1.2.2.2.1,x.1.2.2.2.2.1,y.2.1,x.1.2.2.2.2.2.2.1,x.1.2.2.2.2.2.2.2.1,x.1.2.2.2.2.2.2.2.2.1,(⟨x.1.2.2.2.2.2.2.2.2.2.1,x.1.2.2.2.2.2.2.2.2.2.2.1⟩:qHf),(⟨x.1.2.2.2.2.2.2.2.2.2.2.2.1,x.1.2.2.2.2.2.2.2.2.2.2.2.2.1⟩:qHf),(⟨x.1.2.2.2.2.2.2.2.2.2.2.2.2.2.1,x.1.2.2.2.2.2.2.2.2.2.2.2.2.2.2.1⟩:qHf)⟩:qHc) x.2.1 x.2.2.1) (fun x y r=>.c (.o (.vI r))) fun x y r=>[.view .node y.1,.view .str y.2.1]
theorem zab_val:qAn Tryd.prog 35 zab_c:=qAo zab_chk 7 zab_Gok 2 (fun x=>Nat.le_of_ble_eq_true rfl) (fun y=>rfl) zab_subs fun x y=>by
 simp only [zab_s,-eq_self,qAe,qAh,obA,obS,slL,slR,qAd]
 kernel_rfl
def zab_w:CQ:=qCa [(0,some 0,some (.node,46)),(0,some 5,some (.str,9))] (qD7 [false,false] zab_c)
theorem zab_ok:qAg Tryd.prog 35 zab_w:=qB7 zab_val
def zbm_q:IQ:=(.seq (rg 0 [oP 0 (.mv vF)]) (.seq (rg 2 [oP 7 (.call 23 [(.v (.string ⟨#[123,34,105,115,115,34,58,34,97,34,44,34,97,117,100,34,58,91,34,120,34,44,34,121,34,93,44,34,101,120,112,34,58,49,48,44,34,110,34,58,49,125]⟩))]),oM 6 t7,oP 8 (.extract t6 0),oP 9 (.extract t6 1),oP 1 (.alloc 51 [.slice none 0 0,.string ⟨#[]⟩,.bool false,.string ⟨#[]⟩,.bool false,.slice none 0 0,.bool false,.string ⟨#[]⟩,.bool false,.bool false,.int .i64 0,.bool false,.int .i64 0,.bool false,.int .i64 0]),oN (.store 15 t1 t8),oM 2 t9]) (.seq (rg 4 [oP 11 (.load (some 15) t1),oP 12 (.call 36 [t11,(vI 5)]),oM 10 t12,oP 13 (.extract t10 0),oP 14 (.extract t10 1),oP 3 (.alloc 68 [.bool false,.int .i64 0,.int .i64 0]),oN (.store 3 t3 t13),oM 4 t14]) (.seq (rg 0 [oP 15 (.bslice 9 1 1 [.string ⟨#[]⟩] [(0,(.v (.string ⟨#[110]⟩)))]),oP 16 (.build [.slice none 0 0,.string ⟨#[]⟩,.bool false,.string ⟨#[]⟩,.bool false,.string ⟨#[]⟩,.bool false,.int .i64 0,.slice none 0 0] [(1,1,(.v (.string ⟨#[97]⟩))),(2,1,vT),(3,1,(.v (.string ⟨#[121]⟩))),(4,1,vT),(8,1,t15)]),oP 5 (.alloc 31 [.slice none 0 0,.string ⟨#[]⟩,.bool false,.string ⟨#[]⟩,.bool false,.string ⟨#[]⟩,.bool false,.int .i64 0,.slice none 0 0]),oN (.store 9 t5 t16)]) (.seq (.seq (rg 43 [oM 17 t2,oP 18 (.bi .neq t17 (vI 0)),oM 19 t18,oE 20 (.mv t4) 19,oE 21 (.bi .neq t20 (vI 0)) 19,oP 22 (.pick t19 vT t21),oM 23 t22,oE 24 (.faddr 5 t1) 23,oE 25 (.load none t24) 23,oE 26 (.len t25) 23,oE 27 (.bi .neq t26 (vI 2)) 23,oP 28 (.pick t23 vT t27),oM 29 t28,oE 30 (.faddr 9 t1) 29,oE 31 (.faddr 0 t30) 29,oE 32 (.load none t31) 29,oE 33 (.un .not t32) 29,oP 34 (.pick t29 vT t33),oM 35 t34,oE 36 (.faddr 0 t3) 35,oE 37 (.load none t36) 35,oP 38 (.pick t35 vT t37),oM 39 t38,oE 40 (.faddr 2 t3) 39,oE 41 (.load none t40) 39,oE 42 (.bi .neq t41 (vI 14)) 39,oP 43 (.pick t39 vT t42)]) (.cond t43 (.seq (rg 0 [oP 0 (.mv vF)]) (.cn [0] .ret)) .skip)) (.seq (rg 0 [oP 44 (.load (some 15) t1),oP 45 (.load (some 9) t5),oP 46 (.call 34 [t44,t45]),oP 47 (.bi .eql t46 (vI 0)),oM 48 t47,oF 49 (.load (some 15) t1) 48,oF 50 (.build [.slice none 0 0,.string ⟨#[]⟩,.bool false,.string ⟨#[]⟩,.bool false,.string ⟨#[]⟩,.bool false,.int .i64 0,.slice none 0 0] []) 48,oF 51 (.call 34 [t49,t50]) 48,oF 52 (.bi .eql t51 (vI 133)) 48,oP 53 (.pick t48 t52 vF),oM 54 t53,oF 55 (.load (some 15) t1) 54,oF 56 (.call 35 [t55,(vI 5),(vI 14)]) 54,oF 57 (.bi .eql t56 (vI 0)) 54,oP 58 (.pick t54 t57 vF),oM 59 t58,oF 60 (.load (some 15) t1) 59,oF 61 (.call 35 [t60,(vI 5),(vI 15)]) 59,oF 62 (.bi .eql t61 (vI 134)) 59,oP 63 (.pick t59 t62 vF),oM 0 t63]) (.cn [0] .ret)))))))
theorem zbm_chk:chk Tryd.prog 26 []=some (zbm_q.erase,[.tmp 0],64):=by kernel_rfl
def zbm_s:Option Bool :=
 (zad_s (⟨#[123,34,105,115,115,34,58,34,97,34,44,34,97,117,100,34,58,91,34,120,34,44,34,121,34,93,44,34,101,120,112,34,58,49,48,44,34,110,34,58,49,125]⟩:BA)).bind fun r1 =>
 (zac_s r1.1 (5:Int)).bind fun r2 =>
 bif ((((((!decide (r1.2=(0:Int))) || (!decide (r2.2=(0:Int)))) || (!decide ((r1.1.aud.length:Int)=(2:Int)))) || (!r1.1.exp_.has)) || r2.1.empty) || (!decide (r2.1.to_=(14:Int)))) then (
  some false)
 else (
  (zaa_s r1.1 (⟨[],(⟨#[97]⟩:BA),true,(⟨#[121]⟩:BA),true,(⟨#[]⟩:BA),false,(0:Int),[(⟨#[110]⟩:BA)]⟩:qH0)).bind fun r3 =>
  bif decide (r3=(0:Int)) then (
   (zaa_s r1.1 (⟨[],(⟨#[]⟩:BA),false,(⟨#[]⟩:BA),false,(⟨#[]⟩:BA),false,(0:Int),[]⟩:qH0)).bind fun r4 =>
   bif decide (r4=(133:Int)) then (
    (zab_s r1.1 (5:Int) (14:Int)).bind fun r5 =>
    bif decide (r5=(0:Int)) then (
     (zab_s r1.1 (5:Int) (15:Int)).bind fun r6 =>
     some (decide (r6=(134:Int))))
    else (
     some false))
   else (
    some false))
  else (
   some false))
def zbm_G:Nat→Option CQ:=tblQ [(23,zad_w),(36,zac_w),(34,zaa_w),(35,zab_w)]
theorem zbm_Gok:∀f C,zbm_G f=some C→qAg Tryd.prog f C:=qAl ⟨zad_ok,zac_ok,zaa_ok,zab_ok,tV⟩
def zbm_L:Nat→SubQ:=tblL []
theorem zbm_subs:qAp zbm_L zbm_G 0 6 64 zbm_q:=qAm (show qAt zbm_L zbm_G 0 6 64 [] from tV)
def zbm_da:=(dNil:Dec Unit (List SV))
def zbm_db:=(dNil:Dec Unit (List SB))
def zbm_c:CS:=mkC zbm_da zbm_db (fun x y=>zbm_s) (fun x y r=>.c (.o (.vB r))) fun x y r=>[]
theorem zbm_val:qAn Tryd.prog 26 zbm_c:=qAo zbm_chk 6 zbm_Gok 0 (fun x=>Nat.le_of_ble_eq_true rfl) (fun y=>rfl) zbm_subs fun x y=>by
 simp only [zbm_s,-eq_self,qAe,qAh,obA,obS,slL,slR,qAd]
 kernel_rfl
def zbm_w:CQ:=qD7 [] zbm_c
theorem zbm_ok:qAg Tryd.prog 26 zbm_w:=qBg zbm_val
end
def plP (a b:Int):Int:=if 0<b∧9223372036854775807 - b<a then 9223372036854775807 else if b<0∧a < -9223372036854775808 - b then -9223372036854775808 else a+b
theorem plus_is {a b:Int} (ha:qAc a) (hb : -601≤b∧b≤601):zaf_s a b=some (plP a b):=by
 unfold qAc at ha
 unfold zaf_s plP
 rw [qAb (fun h=>by rw [decide_eq_true_eq] at h; unfold qAc; omega)]
 by_cases h1:0<b∧9223372036854775807 - b<a
 ·rw [if_pos h1,deT h1.1,deT h1.2]
  rfl
 ·rw [if_neg h1]
  have e1:(decide (0<b) && decide (9223372036854775807 - b<a))=false:=by
   rw [Bool.eq_false_iff]
   intro h
   rw [Bool.and_eq_true,decide_eq_true_eq,decide_eq_true_eq] at h
   exact h1 h
  rw [e1,cnF,qAb (fun h=>by rw [decide_eq_true_eq] at h; unfold qAc; omega)]
  by_cases h2:b<0∧a < -9223372036854775808 - b
  ·rw [if_pos h2,deT h2.1,deT h2.2]
   rfl
  ·rw [if_neg h2]
   have e2:(decide (b<0) && decide (a < -9223372036854775808 - b))=false:=by
    rw [Bool.eq_false_iff]
    intro h
    rw [Bool.and_eq_true,decide_eq_true_eq,decide_eq_true_eq] at h
    exact h2 h
   rw [e2,cnF]
   exact qAb (by unfold qAc; omega) _
def expB (c:qHc) (L now:Int):Bool:=c.exp_.has && decide (c.exp_.at_≤now - L)
def nbfB (c:qHc) (L now:Int):Bool:=c.nbf.has && decide (now+L<c.nbf.at_)
def iatB (c:qHc) (L now:Int):Bool:=c.iat.has && decide (now+L<c.iat.at_)
def clP (c:qHc) (L now:Int):Int:=bif expB c L now then 134 else bif nbfB c L now then 135 else bif iatB c L now then 136 else 0
structure OkC (c:qHc):Prop where
 e:qAc c.exp_.at_
 n:qAc c.nbf.at_
 i:qAc c.iat.at_
theorem late_is {x:qHf} (hx:qAc x.at_) {L now:Int} (hL:0≤L∧L≤600) (hn:qAc now):(x.has && (decide (now<plP x.at_ (0 - L))))=(x.has && decide (now+L<x.at_)):=by
 congr 1
 unfold qAc at hx hn
 unfold plP
 apply Bool.eq_iff_iff.2
 rw [decide_eq_true_eq,decide_eq_true_eq]
 split
 ·omega
 ·split <;> omega
theorem clock_is {c:qHc} (hc:OkC c) {L now:Int} (hL:0≤L∧L≤600) (hn:qAc now):zab_s c L now=some (clP c L now):=by
 have he:=hc.e
 have hn':=hn
 have l1:=late_is hc.n hL hn
 have l2:=late_is hc.i hL hn
 unfold qAc at he hn'
 unfold zab_s
 rw [deF (show ¬L<0 by omega),deF (show ¬600<L by omega),Bool.or_self,cnF,qAb (fun _=>by unfold qAc; omega),plus_is hn (by omega),obS,qAb (fun _=>by unfold qAc; omega),plus_is hc.n (by omega),plus_is hc.i (by omega)]
 have e1:((c.exp_.has && (decide (c.exp_.at_≤plP now (0 - L)))) && (!((decide (now<((-9223372036854775808:Int)+L))) && (decide (c.exp_.at_=(-9223372036854775808:Int))))))=expB c L now:=by
  unfold expB
  rw [Bool.and_assoc]
  congr 1
  unfold plP
  apply Bool.eq_iff_iff.2
  rw [Bool.and_eq_true,decide_eq_true_eq,decide_eq_true_eq,Bool.not_eq_true',Bool.and_eq_false_iff,decide_eq_false_iff_not,decide_eq_false_iff_not]
  split
  ·omega
  ·split <;> omega
 rw [e1]
 unfold clP nbfB iatB
 rw [←l1,←l2]
 cases expB c L now with
 | true=>rfl
 | false =>
  rw [cnF,cnF,qAb (fun _=>by unfold qAc; omega),qAb (fun _=>by unfold qAc; omega)]
  cases c.nbf.has <;> cases c.iat.has <;> simp only [cnT,cnF,Bool.true_and,Bool.false_and,obS] <;> (try rfl)
  ·cases decide (now<plP c.iat.at_ (0 - L)) <;> rfl
  ·cases decide (now<plP c.nbf.at_ (0 - L)) <;> rfl
  ·cases decide (now<plP c.nbf.at_ (0 - L)) <;> cases decide (now<plP c.iat.at_ (0 - L)) <;> rfl
def mx (a b:Int):Int:=if b > a then b else a
def qGq (c:qHc) (L:Int):Int :=
 bif c.iat.has then mx (bif c.nbf.has then mx (-9223372036854775808) (plP c.nbf.at_ (0 - L)) else -9223372036854775808) (plP c.iat.at_ (0 - L)) else bif c.nbf.has then mx (-9223372036854775808) (plP c.nbf.at_ (0 - L)) else -9223372036854775808
theorem open_p1 {c:qHc} (hc:OkC c) {L:Int} (hL:0≤L∧L≤600):zac_p1 L (-9223372036854775808) ([(⟨c.nbf.has,c.nbf.at_⟩:Eng.Tm),(⟨c.iat.has,c.iat.at_⟩:Eng.Tm)].length:Int) 0 [(⟨c.nbf.has,c.nbf.at_⟩:Eng.Tm),(⟨c.iat.has,c.iat.at_⟩:Eng.Tm)]=some (qGq c L):=by
 rw [show ([(⟨c.nbf.has,c.nbf.at_⟩:Eng.Tm),(⟨c.iat.has,c.iat.at_⟩:Eng.Tm)].length:Int)=2 from rfl]
 unfold zac_p1
 rw [qAr (y:=((bif c.nbf.has then mx (-9223372036854775808) (plP c.nbf.at_ (0 - L)) else -9223372036854775808),(1:Int))),qAr (y:=(qGq c L,(2:Int))),qAi (o:=qGq c L)]
 ·rfl
 ·unfold qFp
  dsimp only
  rw [deT (by decide),cnT]
  refine (qAb (show (0:Int)≤1∧(1:Int)<2 by decide) _).trans ((qAb (show (1:Nat)<2 by decide) _).trans ?_)
  show (bif c.iat.has then gd (qAc (0 - L)) ((zaf_s c.iat.at_ (0 - L)).bind _) else _)=_
  unfold qGq
  cases c.iat.has with
  | true =>
   rw [cnT,cnT,qAb (by unfold qAc; omega),plus_is hc.i (by omega),obS]
   exact qAb (by unfold qAc; decide) _
  | false=>exact qAb (by unfold qAc; decide) _
 ·unfold qFp
  dsimp only
  rw [deT (by decide),cnT]
  refine (qAb (show (0:Int)≤0∧(0:Int)<2 by decide) _).trans ((qAb (show (0:Nat)<2 by decide) _).trans ?_)
  show (bif c.nbf.has then gd (qAc (0 - L)) ((zaf_s c.nbf.at_ (0 - L)).bind _) else _)=_
  cases c.nbf.has with
  | true =>
   rw [cnT,cnT,qAb (by unfold qAc; omega),plus_is hc.n (by omega),obS]
   exact qAb (by unfold qAc; decide) _
  | false=>exact qAb (by unfold qAc; decide) _
theorem open_is {c:qHc} (hc:OkC c) {L:Int} (hL:0≤L∧L≤600):∃w:qHs,zac_s c L=some (w,0) ∧
  ((w=⟨true,0,0⟩∧∀now,qAc now→clP c L now≠0)∨(w.empty=false∧qAc w.from_∧qAc w.to_∧w.from_≤w.to_∧(∀now,qAc now→(clP c L now=0↔w.from_≤now∧now≤w.to_))∧(w.to_<9223372036854775807→clP c L (w.to_+1)=134))):=by
 have cz:∀now,clP c L now=0↔expB c L now=false∧nbfB c L now=false∧iatB c L now=false:=fun now=>by
  unfold clP
  cases expB c L now <;> cases nbfB c L now <;> cases iatB c L now <;> decide
 have hfr:qAc (qGq c L)∧∀now,qAc now→((nbfB c L now=false∧iatB c L now=false)↔qGq c L≤now):=by
  have h1:=hc.n
  have h2:=hc.i
  unfold qAc at h1 h2 ⊢
  unfold nbfB iatB qGq mx plP
  cases c.nbf.has <;> cases c.iat.has <;> simp only [cnT,cnF,Bool.true_and,Bool.false_and,decide_eq_false_iff_not,true_and,and_true]
  ·exact ⟨by omega,fun now hn=>⟨fun _=>by omega,fun _=>trivial⟩⟩
  ·refine ⟨?_,fun now hn=>?_⟩
   ·repeat' split
    all_goals omega
   ·repeat' split
    all_goals omega
  ·refine ⟨?_,fun now hn=>?_⟩
   ·repeat' split
    all_goals omega
   ·repeat' split
    all_goals omega
  ·refine ⟨?_,fun now hn=>?_⟩
   ·repeat' split
    all_goals omega
   ·repeat' split
    all_goals omega
 have p0:∀hi:Int,zac_p0 L (-9223372036854775808) hi c.nbf.has c.nbf.at_ c.iat.has c.iat.at_=some (if hi<qGq c L then (0,true,0,0) else (0,false,qGq c L,hi)):=fun hi=>by
  unfold zac_p0
  rw [open_p1 hc hL,obS]
  by_cases h:hi<qGq c L
  ·rw [deT h,if_pos h]; rfl
  ·rw [deF h,if_neg h]; rfl
 have fin:∀hi:Int,qAc hi→(∀now,qAc now→(expB c L now=false↔now≤hi))→(hi<9223372036854775807→expB c L (hi+1)=true)→∃w:qHs,some ((⟨(if hi<qGq c L then (0,true,0,0) else (0,false,qGq c L,hi):Int × Bool × Int × Int).2.1,(if hi<qGq c L then (0,true,0,0) else (0,false,qGq c L,hi):Int × Bool × Int × Int).2.2.1,(if hi<qGq c L then (0,true,0,0) else (0,false,qGq c L,hi):Int × Bool × Int × Int).2.2.2⟩:qHs),(if hi<qGq c L then (0,true,0,0) else (0,false,qGq c L,hi):Int × Bool × Int × Int).1)=some (w,(0:Int)) ∧
   ((w=⟨true,0,0⟩∧∀now,qAc now→clP c L now≠0)∨(w.empty=false∧qAc w.from_∧qAc w.to_∧w.from_≤w.to_∧(∀now,qAc now→(clP c L now=0↔w.from_≤now∧now≤w.to_))∧(w.to_<9223372036854775807→clP c L (w.to_+1)=134))):=fun hi hto hex hnx=>by
  by_cases h:hi<qGq c L
  ·rw [if_pos h]
   refine ⟨_,rfl,.inl ⟨rfl,fun now hn h0=>?_⟩⟩
   obtain ⟨a1,a2⟩:=(cz now).1 h0
   have b1:=(hex now hn).1 a1
   have b2:=(hfr.2 now hn).1 a2
   omega
  ·rw [if_neg h]
   refine ⟨_,rfl,.inr ⟨rfl,hfr.1,hto,by show qGq c L≤hi; omega,fun now hn=>?_,fun h=>?_⟩⟩
   ·rw [cz,hex now hn,hfr.2 now hn]
    exact And.comm
   ·show clP c L (hi+1)=134
    unfold clP
    rw [hnx h]
    rfl
 have he:=hc.e
 unfold zac_s
 rw [deF (show ¬L<0 by omega),deF (show ¬600<L by omega),Bool.or_self,cnF]
 cases hh:c.exp_.has with
 | true =>
  rw [cnT]
  by_cases h0:c.exp_.at_ = -9223372036854775808∧L=0
  ·rw [deT h0.1,deT h0.2,Bool.and_self,cnT]
   refine ⟨_,rfl,.inl ⟨rfl,fun now hn hz=>?_⟩⟩
   have:=((cz now).1 hz).1
   unfold expB at this
   rw [hh,Bool.true_and,decide_eq_false_iff_not] at this
   unfold qAc at hn
   omega
  ·have e1:(decide (c.exp_.at_ = -9223372036854775808) && decide (L=0))=false:=by
    rw [Bool.eq_false_iff]
    intro h
    rw [Bool.and_eq_true,decide_eq_true_eq,decide_eq_true_eq] at h
    exact h0 h
   rw [e1,cnF,qAb (by unfold qAc; omega),plus_is he (by omega),obS,p0,obS]
   unfold qAc at he
   refine fin _ ?_ (fun now hn=>?_) fun h=>?_
   ·unfold plP qAc
    repeat' split
    all_goals omega
   ·unfold expB plP
    unfold qAc at hn
    rw [hh,Bool.true_and,decide_eq_false_iff_not]
    repeat' split
    all_goals omega
   ·unfold expB
    rw [hh,Bool.true_and,decide_eq_true_eq]
    unfold plP at h ⊢
    revert h
    repeat' split
    all_goals omega
 | false =>
  rw [cnF,p0,obS]
  refine fin _ (by unfold qAc; decide) (fun now hn=>?_) fun h=>by omega
  unfold expB
  unfold qAc at hn
  rw [hh,Bool.false_and]
  exact ⟨fun _=>by omega,fun _=>rfl⟩
theorem zero_of {c:qHc} {L now:Int} (h:clP c L now=0):expB c L now=false∧nbfB c L now=false∧iatB c L now=false:=by
 unfold clP at h
 revert h
 cases expB c L now <;> cases nbfB c L now <;> cases iatB c L now <;> decide
end Go.Proofs.YticplgndjpljiaaDoor
