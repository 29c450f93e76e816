/-
  Functions as the engine reads them (printed by gen.py).
-/
import Derived.Test.YticplgndjpljiaaDoorEngO
import Derived.Test.YticplgndjpljiaaDoorProg
import Derived.Test.YticplgndjpljiaaDoorPShape
import Derived.Test.YticplgndjpljiaaDoorGC
import Derived.Test.YticplgndjpljiaaDoorJR
import Derived.Test.YticplgndjpljiaaDoorJP
import Derived.Test.YticplgndjpljiaaDoorPLexQ
import Derived.Test.YticplgndjpljiaaDoorJW
namespace Go.Proofs.YticplgndjpljiaaDoor
open Go.Eng
set_option linter.unusedVariables false
set_option linter.unusedSimpArgs false
set_option maxRecDepth 100000
noncomputable section
structure qG5 where
 empty:Bool
 from_:Int
 to_:Int
structure qGv where
 algs:(List BA)
 iss:BA
 hasIss:Bool
 aud:BA
 hasAud:Bool
 typ:BA
 hasTyp:Bool
 leeway:Int
 need:(List BA)
structure qHo where
 high:Int
 low:Int
def zaf_q:IQ:=(.seq (rg 4 [oP 4 (.mv (vI 0))]) (.seq (.block 0 (.seq (rg 5 [oM 6 t1,oP 7 (.bi .gtr t6 (vI 0)),oM 8 t7,oF 9 (.mv t0) 8,oF 10 (.mv t1) 8,oF 11 (.bi .sub (vI 9223372036854775807) t10) 8,oF 12 (.bi .gtr t9 t11) 8,oP 13 (.pick t8 t12 vF),oM 5 t13]) (.cond t5 (.seq (rg 4 [oP 4 (.mv (vI 9223372036854775807))]) (.cn [4] .ret)) (.seq (rg 14 [oM 15 t1,oP 16 (.bi .lss t15 (vI 0)),oM 17 t16,oF 18 (.mv t0) 17,oF 19 (.mv t1) 17,oF 20 (.bi .sub (.v (.int .i64 (-9223372036854775808))) t19) 17,oF 21 (.bi .lss t18 t20) 17,oP 22 (.pick t17 t21 vF),oM 14 t22]) (.cond t14 (.seq (rg 4 [oP 4 (.mv (.v (.int .i64 (-9223372036854775808))))]) (.cn [4] .ret)) .skip))))) (.seq (rg 4 [oM 23 t0,oM 24 t1,oP 25 (.bi .add t23 t24),oM 4 t25]) (.cn [4] .ret))))
theorem zaf_chk:chk Tryd.prog 62 []=some (zaf_q.erase,[.tmp 4],26):=by kernel_rfl
def zaf_s (a b:Int):Option Int :=
 gd ((decide ((0:Int)<b))=true→qAe ((9223372036854775807:Int) - b)) <|
 bif ((decide ((0:Int)<b)) && (decide (((9223372036854775807:Int) - b)<a))) then (
  some (9223372036854775807:Int))
 else (
  gd ((decide (b<(0:Int)))=true→qAe ((-9223372036854775808:Int) - b)) <|
  bif ((decide (b<(0:Int))) && (decide (a<((-9223372036854775808:Int) - b)))) then (
   some (-9223372036854775808:Int))
  else (
   gd (qAe (a+b)) <|
   some (a+b)))
def zaf_G:Nat→Option CQ:=tblQ []
theorem zaf_Gok:∀f C,zaf_G f=some C→qAg Tryd.prog f C:=fun f C h=>by cases h
def zaf_L:Nat→SubQ:=tblL []
theorem zaf_subs:qAr zaf_L zaf_G 0 5 26 zaf_q:=qAl (show qAt zaf_L zaf_G 0 5 26 [] from tV)
def zaf_da:=(qAa (dVC (dCO dZ)) (qAa (dVC (dCO dZ)) dNil))
def zaf_db:=(dNil:Dec Unit (List SB))
def zaf_c:CS:=mkC zaf_da zaf_db (fun x y=>zaf_s x.1 x.2.1) (fun x y r=>.c (.o (.vI r))) fun x y r=>[]
theorem zaf_val:qAn Tryd.prog 62 zaf_c:=qAo zaf_chk 5 zaf_Gok 0 (fun x=>Nat.le_of_ble_eq_true rfl) (fun y=>rfl) zaf_subs fun x y=>by
 simp only [zaf_s,-eq_self,qAc,qAf,obA,obS,slL,slR,qAd]
 kernel_rfl
def zaf_w:CQ:=qCn [] zaf_c
theorem zaf_ok:qAg Tryd.prog 62 zaf_w:=qAw zaf_val
def zac_b1:IQ:=(.loop [1,4,6,7,39,40,41] (.seq (rg 42 [oP 42 (.bi .lss t41 t40)]) (.seq (.cond t42 .skip (.cn [4,6,7] (.exit 0))) (.seq (.block 1 (.seq (rg 0 [oP 43 (.iaddr 2 t39 t41),oP 44 (.load (some 2) t43),oP 9 (.alloc 49 [.bool false,.int .i64 0]),oN (.store 2 t9 t44)]) (.seq (rg 46 [oP 45 (.faddr 0 t9),oP 46 (.load none t45)]) (.cond t46 (rg 6 [oM 47 t6,oP 48 (.faddr 1 t9),oP 49 (.load none t48),oM 50 t1,oP 51 (.un .neg t50),oP 52 (.call 62 [t49,t51]),oP 53 (.mm true t47 t52),oM 6 t53]) .skip)))) (rg 41 [oP 54 (.bi .add t41 (vI 1)),oM 41 t54])))))
def zac_b0:IQ:=(.seq (.seq (rg 41 [oP 35 (.faddr 11 t2),oP 36 (.load (some 2) t35),oP 37 (.faddr 13 t2),oP 38 (.load (some 2) t37),oP 39 (.bslice 49 2 2 [.bool false,.int .i64 0] [(0,t36),(1,t38)]),oP 40 (.len t39),oP 41 (.mv (vI 0))]) (.block 0 (.cn [1,4,6,7,39,40,41] (.sub 1 zac_b1)))) (.seq (.seq (rg 57 [oM 55 t7,oM 56 t6,oP 57 (.bi .lss t55 t56)]) (.cond t57 (.seq (rg 5 [oP 58 (.build [.bool false,.int .i64 0,.int .i64 0] [(0,1,vT)]),oN (.store 3 t4 t58),oP 5 (.mv (vI 0))]) (.cn [4,5] .ret)) .skip)) (.seq (rg 5 [oM 59 t6,oM 60 t7,oP 61 (.build [.bool false,.int .i64 0,.int .i64 0] [(1,1,t59),(2,1,t60)]),oN (.store 3 t4 t61),oP 5 (.mv (vI 0))]) (.cn [4,5] .ret))))
def zac_q:IQ:=(.seq (rg 5 [oP 2 (.box 51 15 t0),oP 4 (.alloc 68 [.bool false,.int .i64 0,.int .i64 0]),oP 5 (.mv (vI 0))]) (.seq (.seq (rg 15 [oM 10 t1,oP 11 (.bi .lss t10 (vI 0)),oM 12 t11,oE 13 (.mv t1) 12,oE 14 (.bi .gtr t13 (vI 600)) 12,oP 15 (.pick t12 vT t14)]) (.cond t15 (.seq (rg 5 [oP 16 (.build [.bool false,.int .i64 0,.int .i64 0] []),oN (.store 3 t4 t16),oP 5 (.mv (vI 12))]) (.cn [4,5] .ret)) .skip)) (.seq (rg 7 [oP 6 (.mv (.v (.int .i64 (-9223372036854775808)))),oP 7 (.mv (vI 9223372036854775807))]) (.seq (.seq (rg 19 [oP 17 (.faddr 9 t2),oP 18 (.faddr 0 t17),oP 19 (.load none t18)]) (.cond t19 (.seq (.seq (rg 27 [oP 20 (.faddr 9 t2),oP 21 (.faddr 1 t20),oP 22 (.load none t21),oP 23 (.bi .eql t22 (.v (.int .i64 (-9223372036854775808)))),oM 24 t23,oF 25 (.mv t1) 24,oF 26 (.bi .eql t25 (vI 0)) 24,oP 27 (.pick t24 t26 vF)]) (.cond t27 (.seq (rg 5 [oP 28 (.build [.bool false,.int .i64 0,.int .i64 0] [(0,1,vT)]),oN (.store 3 t4 t28),oP 5 (.mv (vI 0))]) (.cn [4,5] .ret)) .skip)) (rg 7 [oP 29 (.faddr 9 t2),oP 30 (.faddr 1 t29),oP 31 (.load none t30),oM 32 t1,oP 33 (.bi .sub t32 (vI 1)),oP 34 (.call 62 [t31,t33]),oM 7 t34])) .skip)) (.cn [1,2,4,6,7] (.sub 0 zac_b0))))))
theorem zac_chk:chk Tryd.prog 36 []=some (zac_q.erase,[.cell 4 (some 3),.tmp 5],62):=by kernel_rfl
def qEz (leeway from_ x40_ x41_:Int) (x39_:List Eng.Tm):Option ((Int × Int) ⊕ Int) :=
 bif decide (x41_<x40_) then (
  gd (0≤x41_∧x41_<x39_.length) <|
  gd ((Int.toNat x41_)<x39_.length) <|
  bif (x39_.getD (Int.toNat x41_) (ET.dft .tm)).has then (
   gd (qAe (0 - leeway)) <|
   (zaf_s ((x39_.getD (Int.toNat x41_) (ET.dft .tm)).at_) (0 - leeway)).bind fun r6 =>
   gd (qAe (x41_+(1:Int))) <|
   some (.inl ((if r6 > from_ then r6 else from_),(x41_+(1:Int)))))
  else (
   gd (qAe (x41_+(1:Int))) <|
   some (.inl (from_,(x41_+(1:Int))))))
 else (
  some (.inr from_))
def zac_p1 (leeway from_ x40_ x41_:Int) (x39_:List Eng.Tm):Option Int :=
 qA3 (fun x:(Int × Int)=>qEz leeway x.1 x40_ x.2 x39_) (from_,x41_)
def zac_p0 (leeway from_ to_:Int) (qGz:Bool) (qG2:Int) (qG0:Bool) (qG3:Int):Option (Int × Bool × Int × Int) :=
 (zac_p1 leeway from_ ([(⟨qGz,qG2⟩:Eng.Tm),(⟨qG0,qG3⟩:Eng.Tm)].length:Int) (0:Int) [(⟨qGz,qG2⟩:Eng.Tm),(⟨qG0,qG3⟩:Eng.Tm)]).bind fun o7 =>
 bif decide (to_<o7) then (
  some ((0:Int),true,(0:Int),(0:Int)))
 else (
  some ((0:Int),false,o7,to_))
def zac_s (c:qGn) (leeway:Int):Option (qG5 × Int) :=
 bif ((decide (leeway<(0:Int))) || (decide ((600:Int)<leeway))) then (
  some ((⟨false,(0:Int),(0:Int)⟩:qG5),(12:Int)))
 else (
  bif c.exp_.has then (
   bif ((decide (c.exp_.at_=(-9223372036854775808:Int))) && (decide (leeway=(0:Int)))) then (
    some ((⟨true,(0:Int),(0:Int)⟩:qG5),(0:Int)))
   else (
    gd (qAe (leeway - (1:Int))) <|
    (zaf_s c.exp_.at_ (leeway - (1:Int))).bind fun r5 =>
    (zac_p0 leeway (-9223372036854775808:Int) r5 c.nbf.has c.nbf.at_ c.iat.has c.iat.at_).bind fun o8 =>
    some ((⟨o8.2.1,o8.2.2.1,o8.2.2.2⟩:qG5),o8.1)))
  else (
   (zac_p0 leeway (-9223372036854775808:Int) (9223372036854775807:Int) c.nbf.has c.nbf.at_ c.iat.has c.iat.at_).bind fun o9 =>
   some ((⟨o9.2.1,o9.2.2.1,o9.2.2.2⟩:qG5),o9.1)))
def zac_G:Nat→Option CQ:=tblQ [(62,zaf_w)]
theorem zac_Gok:∀f C,zac_G f=some C→qAg Tryd.prog f C:=qAj ⟨zaf_ok,tV⟩
def zac_d1:=(dQS (qAa (dSO 1 dZ) (qAa (dSO 4 (dH 2 0)) (qAa (dSO 6 dZ) (qAa (dSO 7 dZ) (qAa (dSO 39 (dO 3)) (qAa (dSO 40 dZ) (qAa (dSO 41 dZ) dNil))))))) (qAa (qAv .node) (qAa (qAv .str) (qAa (qAp 68 (qAa dB (qAa dZ (qAa dZ dNil)))) (qAa (dRow .tm 49) dNil)))))
def zac_l1:SubQ:=mkL zac_d1 (fun x=>zac_p1 x.1.1 x.1.2.2.1 x.1.2.2.2.2.2.1 x.1.2.2.2.2.2.2.1 x.2.2.2.2.1) fun x r R kn kx kr=>kx 0 ⟨[sL 4 (.hd 2 0),sL 6 (.vI r),sL 7 (.vI x.1.2.2.2.1)],[],[.view .node x.2.1,.view .str x.2.2.1,.cells 68 [.vB x.2.2.2.1.1,.vI x.2.2.2.1.2.1,.vI x.2.2.2.1.2.2.1]]⟩
def zac_d0:=(dQS (qAa (dSO 1 dZ) (qAa (dSO 2 (dH 2 0)) (qAa (dSO 4 (dH 3 0)) (qAa (dSO 6 dZ) (qAa (dSO 7 dZ) dNil))))) (qAa (qAv .node) (qAa (qAv .str) (qAa (qAp 51 (qAa (dO 0) (qAa dS (qAa dB (qAa dS (qAa dB (qAa (dO 1) (qAa dB (qAa dS (qAa dB (qAa dB (qAa dZ (qAa dB (qAa dZ (qAa dB (qAa dZ dNil)))))))))))))))) (qAa (qAp 68 (qAa dB (qAa dZ (qAa dZ dNil)))) dNil)))))
def zac_l0:SubQ:=mkL zac_d0 (fun x=>zac_p0 x.1.1 x.1.2.2.2.1 x.1.2.2.2.2.1 x.2.2.2.1.2.2.2.2.2.2.2.2.2.2.2.1 x.2.2.2.1.2.2.2.2.2.2.2.2.2.2.2.2.1 x.2.2.2.1.2.2.2.2.2.2.2.2.2.2.2.2.2.1 x.2.2.2.1.2.2.2.2.2.2.2.2.2.2.2.2.2.2.1) fun x r R kn kx kr=>kr ⟨[sL 4 (.hd 2 0),sL 5 (.vI r.1)],[],[.view .node x.2.1,.view .str x.2.2.1,.cells 68 [.vB r.2.1,.vI r.2.2.1,.vI r.2.2.2]]⟩
def zac_L:Nat→SubQ:=tblL [(1,zac_l1),(0,zac_l0)]
theorem zac_sub1:qBf zac_L zac_G 2 42 62 1 zac_b1:=qAu (show zac_L 1=zac_l1 from by kernel_rfl) fun x R kn kx kr=>qAq (step:=fun y=>qEz x.1.1 y.1 x.1.2.2.2.2.2.1 y.2 x.2.2.2.2.1) (enc:=fun (y:Int × Int)=>zac_d1.e ((x.1.1,x.1.2.1,y.1,x.1.2.2.2.1,x.1.2.2.2.2.1,x.1.2.2.2.2.2.1,y.2,x.1.2.2.2.2.2.2.2),x.2)) (fun y=>by kernel_rfl) (fun y ki=>by simp only [qEz,-eq_self,qAc,qAf,obA,obS,slL,slR,qAd]; kernel_rfl) (x.1.2.2.1,x.1.2.2.2.2.2.2.1)
theorem zac_sub0:qBf zac_L zac_G 2 42 62 0 zac_b0:=qAu (show zac_L 0=zac_l0 from by kernel_rfl) fun x R kn kx kr=>by
 simp only [zac_p0,-eq_self,qAc,qAf,obA,obS,slL,slR,qAd]
 kernel_rfl
theorem zac_subs:qAr zac_L zac_G 2 42 62 zac_q:=qAl (show qAt zac_L zac_G 2 42 62 [(0,zac_b0),(1,zac_b1)] from ⟨zac_sub0,zac_sub1,tV⟩)
def zac_da:=(qAa (dVC (dCA (qAa (dO 0) (qAa dS (qAa dB (qAa dS (qAa dB (qAa (dO 1) (qAa dB (qAa dS (qAa dB (qAa dB (qAa dZ (qAa dB (qAa dZ (qAa dB (qAa dZ dNil))))))))))))))))) (qAa (dVC (dCO dZ)) dNil))
def zac_db:=(qAa (qAv .node) (qAa (qAv .str) dNil))
def zac_c:CS:=mkC zac_da zac_db (fun x y=>zac_s (⟨y.1,x.1.2.1,x.1.2.2.1,x.1.2.2.2.1,x.1.2.2.2.2.1,y.2.1,x.1.2.2.2.2.2.2.1,x.1.2.2.2.2.2.2.2.1,x.1.2.2.2.2.2.2.2.2.1,(⟨x.1.2.2.2.2.2.2.2.2.2.1,x.1.2.2.2.2.2.2.2.2.2.2.1⟩:qGs),(⟨x.1.2.2.2.2.2.2.2.2.2.2.2.1,x.1.2.2.2.2.2.2.2.2.2.2.2.2.1⟩:qGs),(⟨x.1.2.2.2.2.2.2.2.2.2.2.2.2.2.1,x.1.2.2.2.2.2.2.2.2.2.2.2.2.2.2.1⟩:qGs)⟩:qGn) x.2.1) (fun x y r=>.tup [.agg [.vB r.1.empty,.vI r.1.from_,.vI r.1.to_],.o (.vI r.2)]) fun x y r=>[.view .node y.1,.view .str y.2.1]
theorem zac_val:qAn Tryd.prog 36 zac_c:=qAo zac_chk 42 zac_Gok 2 (fun x=>Nat.le_of_ble_eq_true rfl) (fun y=>rfl) zac_subs fun x y=>by
 simp only [zac_s,-eq_self,qAc,qAf,obA,obS,slL,slR,qAd]
 kernel_rfl
def zac_w:CQ:=qB4 [(0,some 0,some (.node,46)),(0,some 5,some (.str,9))] (qCn [false,false] zac_c)
theorem zac_ok:qAg Tryd.prog 36 zac_w:=qBx zac_val
def zcd_b0:IQ:=(.loop [0,1,7,8] (.seq (rg 9 [oP 9 (.bi .lss t8 t7)]) (.seq (.cond t9 .skip (.cn [] (.exit 0))) (.seq (.block 1 (.seq (rg 5 [oM 10 t8,oM 5 t10]) (.seq (rg 16 [oM 11 t1,oM 12 t0,oM 13 t5,oP 14 (.iaddr 1 t12 t13),oP 15 (.load none t14),oP 16 (.bi .eql t11 t15)]) (.cond t16 (.seq (rg 4 [oM 17 t5,oM 4 t17]) (.cn [4] .ret)) .skip)))) (rg 8 [oP 18 (.bi .add t8 (vI 1)),oM 8 t18])))))
def zcd_q:IQ:=(.seq (rg 4 [oP 4 (.mv (vI 0))]) (.seq (.seq (rg 8 [oM 6 t0,oP 7 (.len t6),oP 8 (.mv (vI 0))]) (.block 0 (.cn [0,1,7,8] (.sub 0 zcd_b0)))) (.seq (rg 4 [oP 4 (.mv (.v (.int .i64 (-1))))]) (.cn [4] .ret))))
theorem zcd_chk:chk Tryd.prog 76 []=some (zcd_q.erase,[.tmp 4],19):=by kernel_rfl
def qDf (v:BA) (x7_ x8_:Int) (s:List BA):Option (Int ⊕ (Int ⊕ Unit)) :=
 bif decide (x8_<x7_) then (
  gd (0≤x8_∧x8_<s.length) <|
  gd ((Int.toNat x8_)<s.length) <|
  bif decide (v=(s.getD (Int.toNat x8_) (ET.dft .str))) then (
   some (.inr (.inl x8_)))
  else (
   gd (qAe (x8_+(1:Int))) <|
   some (.inl (x8_+(1:Int)))))
 else (
  some (.inr (.inr ())))
def zcd_p0 (v:BA) (x7_ x8_:Int) (s:List BA):Option (Int ⊕ Unit) :=
 qA3 (fun x:Int=>qDf v x7_ x s) x8_
def zcd_s (s:(List BA)) (v:BA):Option Int :=
 (zcd_p0 v (s.length:Int) (0:Int) s).bind fun o1=>(Sum.elim (fun (o1_0:Int) =>
  some o1_0) (fun (o1_1:Unit) =>
  some (-1:Int))) o1
def zcd_G:Nat→Option CQ:=tblQ []
theorem zcd_Gok:∀f C,zcd_G f=some C→qAg Tryd.prog f C:=fun f C h=>by cases h
def zcd_d0:=(dQS (qAa (dSO 0 (dO 0)) (qAa (dSO 1 dS) (qAa (dSO 7 dZ) (qAa (dSO 8 dZ) dNil)))) (qAa (qAv .str) dNil))
def zcd_l0:SubQ:=mkL zcd_d0 (fun x=>zcd_p0 x.1.2.1 x.1.2.2.1 x.1.2.2.2.1 x.2.1) fun x r R kn kx kr=>(Sum.elim (fun (r_0:Int)=>kr ⟨[sL 4 (.vI r_0)],[],[.view .str x.2.1]⟩) (fun (r_1:Unit)=>kx 0 ⟨[],[],[.view .str x.2.1]⟩)) r
def zcd_L:Nat→SubQ:=tblL [(0,zcd_l0)]
theorem zcd_sub0:qBf zcd_L zcd_G 1 9 19 0 zcd_b0:=qAu (show zcd_L 0=zcd_l0 from by kernel_rfl) fun x R kn kx kr=>qAq (step:=fun y=>qDf x.1.2.1 x.1.2.2.1 y x.2.1) (enc:=fun (y:Int)=>zcd_d0.e ((x.1.1,x.1.2.1,x.1.2.2.1,y,x.1.2.2.2.2),x.2)) (fun y=>by kernel_rfl) (fun y ki=>by simp only [qDf,-eq_self,qAc,qAf,obA,obS,slL,slR,qAd]; kernel_rfl) x.1.2.2.2.1
theorem zcd_subs:qAr zcd_L zcd_G 1 9 19 zcd_q:=qAl (show qAt zcd_L zcd_G 1 9 19 [(0,zcd_b0)] from ⟨zcd_sub0,tV⟩)
def zcd_da:=(qAa (dVC (dCO (dO 0))) (qAa (dVC (dCO dS)) dNil))
def zcd_db:=(qAa (qAv .str) dNil)
def zcd_c:CS:=mkC zcd_da zcd_db (fun x y=>zcd_s y.1 x.2.1) (fun x y r=>.c (.o (.vI r))) fun x y r=>[.view .str y.1]
theorem zcd_val:qAn Tryd.prog 76 zcd_c:=qAo zcd_chk 9 zcd_Gok 1 (fun x=>Nat.le_of_ble_eq_true rfl) (fun y=>rfl) zcd_subs fun x y=>by
 simp only [zcd_s,-eq_self,qAc,qAf,obA,obS,slL,slR,qAd]
 kernel_rfl
def zcd_w:CQ:=qB4 [(0,none,some (.str,9))] (qCn [false] zcd_c)
theorem zcd_ok:qAg Tryd.prog 76 zcd_w:=qBx zcd_val
def zcc_q:IQ:=(.seq (rg 4 [oP 4 (.mv vF)]) (.seq (rg 4 [oM 5 t0,oM 6 t1,oP 7 (.call 76 [t5,t6]),oP 8 (.bi .geq t7 (vI 0)),oM 4 t8]) (.cn [4] .ret)))
theorem zcc_chk:chk Tryd.prog 52 []=some (zcc_q.erase,[.tmp 4],9):=by kernel_rfl
def zcc_s (s:(List BA)) (v:BA):Option Bool :=
 (zcd_s s v).bind fun r1 =>
 some (decide ((0:Int)≤r1))
def zcc_G:Nat→Option CQ:=tblQ [(76,zcd_w)]
theorem zcc_Gok:∀f C,zcc_G f=some C→qAg Tryd.prog f C:=qAj ⟨zcd_ok,tV⟩
def zcc_L:Nat→SubQ:=tblL []
theorem zcc_subs:qAr zcc_L zcc_G 1 5 9 zcc_q:=qAl (show qAt zcc_L zcc_G 1 5 9 [] from tV)
def zcc_da:=(qAa (dVC (dCO (dO 0))) (qAa (dVC (dCO dS)) dNil))
def zcc_db:=(qAa (qAv .str) dNil)
def zcc_c:CS:=mkC zcc_da zcc_db (fun x y=>zcc_s y.1 x.2.1) (fun x y r=>.c (.o (.vB r))) fun x y r=>[.view .str y.1]
theorem zcc_val:qAn Tryd.prog 52 zcc_c:=qAo zcc_chk 5 zcc_Gok 1 (fun x=>Nat.le_of_ble_eq_true rfl) (fun y=>rfl) zcc_subs fun x y=>by
 simp only [zcc_s,-eq_self,qAc,qAf,obA,obS,slL,slR,qAd]
 kernel_rfl
def zcc_w:CQ:=qB4 [(0,none,some (.str,9))] (qCn [false] zcc_c)
theorem zcc_ok:qAg Tryd.prog 52 zcc_w:=qBx zcc_val
def zaa_b0:IQ:=(.loop [2,3,8,9,10] (.seq (rg 11 [oP 11 (.bi .lss t10 t9)]) (.seq (.cond t11 .skip (.cn [2,3] (.exit 0))) (.seq (.block 1 (.seq (rg 6 [oP 12 (.iaddr 1 t8 t10),oP 13 (.load none t12),oM 6 t13]) (.seq (rg 18 [oP 14 (.faddr 0 t2),oP 15 (.load none t14),oM 16 t6,oP 17 (.call 21 [t15,(vI 0),t16]),oP 18 (.bi .lss t17 (vI 0))]) (.cond t18 (.seq (rg 4 [oP 4 (.mv (vI 137))]) (.cn [4] .ret)) .skip)))) (rg 10 [oP 19 (.bi .add t10 (vI 1)),oM 10 t19])))))
def zaa_q:IQ:=(.seq (rg 4 [oP 2 (.box 51 15 t0),oP 3 (.box 31 9 t1),oP 4 (.mv (vI 0))]) (.seq (.seq (rg 10 [oP 7 (.faddr 8 t3),oP 8 (.load none t7),oP 9 (.len t8),oP 10 (.mv (vI 0))]) (.block 0 (.cn [2,3,8,9,10] (.sub 0 zaa_b0)))) (.seq (.block 2 (.seq (rg 20 [oP 21 (.faddr 2 t3),oP 22 (.load none t21),oM 23 t22,oF 24 (.faddr 2 t2) 23,oF 25 (.load none t24) 23,oF 26 (.mv t25) 23,oF 27 (.faddr 1 t2) 26,oF 28 (.load none t27) 26,oF 29 (.faddr 1 t3) 26,oF 30 (.load none t29) 26,oF 31 (.bi .eql t28 t30) 26,oF 32 (.pick t26 t31 vF) 23,oF 33 (.un .not t32) 23,oP 34 (.pick t23 t33 vF),oM 20 t34]) (.cond t20 (.seq (rg 4 [oP 4 (.mv (vI 132))]) (.cn [4] .ret)) (.seq (.seq (rg 35 [oP 36 (.faddr 4 t3),oP 37 (.load none t36),oM 38 t37,oF 39 (.faddr 6 t2) 38,oF 40 (.load none t39) 38,oF 41 (.mv t40) 38,oF 42 (.faddr 5 t2) 41,oF 43 (.load none t42) 41,oF 44 (.faddr 3 t3) 41,oF 45 (.load none t44) 41,oF 46 (.call 52 [t43,t45]) 41,oF 47 (.pick t41 t46 vF) 38,oF 48 (.un .not t47) 38,oP 49 (.pick t38 t48 vF),oM 35 t49]) (.cond t35 .skip (rg 35 [oP 50 (.faddr 4 t3),oP 51 (.load none t50),oP 52 (.un .not t51),oM 53 t52,oF 54 (.faddr 6 t2) 53,oF 55 (.load none t54) 53,oP 56 (.pick t53 t55 vF),oM 35 t56]))) (.cond t35 (.seq (rg 4 [oP 4 (.mv (vI 133))]) (.cn [4] .ret)) .skip))))) (.seq (rg 4 [oP 4 (.mv (vI 0))]) (.cn [4] .ret)))))
theorem zaa_chk:chk Tryd.prog 34 []=some (zaa_q.erase,[.tmp 4],57):=by kernel_rfl
def qDw (x9_ x10_:Int) (c_value:List Eng.Node) (x8_:List BA):Option (Int ⊕ (Int ⊕ Unit)) :=
 bif decide (x10_<x9_) then (
  gd (0≤x10_∧x10_<x8_.length) <|
  gd ((Int.toNat x10_)<x8_.length) <|
  (zao_s c_value (0:Int) (x8_.getD (Int.toNat x10_) (ET.dft .str))).bind fun r2 =>
  bif decide (r2<(0:Int)) then (
   some (.inr (.inl (137:Int))))
  else (
   gd (qAe (x10_+(1:Int))) <|
   some (.inl (x10_+(1:Int)))))
 else (
  some (.inr (.inr ())))
def zaa_p0 (x9_ x10_:Int) (c_value:List Eng.Node) (x8_:List BA):Option (Int ⊕ Unit) :=
 qA3 (fun x:Int=>qDw x9_ x c_value x8_) x10_
def zaa_s (c:qGn) (p:qGv):Option Int :=
 (zaa_p0 (p.need.length:Int) (0:Int) c.value p.need).bind fun o3=>(Sum.elim (fun (o3_0:Int) =>
  some o3_0) (fun (o3_1:Unit) =>
  bif (p.hasIss && (!(c.hasIss && (decide (c.iss=p.iss))))) then (
   some (132:Int))
  else (
   bif p.hasAud then (
    bif c.hasAud then (
     (zcc_s c.aud p.aud).bind fun r4 =>
     bif (!r4) then (
      bif (!r4) then (
       some (133:Int))
      else (
       some (0:Int)))
     else (
      bif ((!p.hasAud) && c.hasAud) then (
       some (133:Int))
      else (
       some (0:Int))))
    else (
     some (133:Int)))
   else (
    bif ((!p.hasAud) && c.hasAud) then (
     some (133:Int))
    else (
     some (0:Int)))))) o3
def zaa_G:Nat→Option CQ:=tblQ [(21,zao_w),(52,zcc_w)]
theorem zaa_Gok:∀f C,zaa_G f=some C→qAg Tryd.prog f C:=qAj ⟨zao_ok,zcc_ok,tV⟩
def zaa_d0:=(dQS (qAa (dSO 2 (dH 4 0)) (qAa (dSO 3 (dH 5 0)) (qAa (dSO 8 (dO 3)) (qAa (dSO 9 dZ) (qAa (dSO 10 dZ) dNil))))) (qAa (qAv .node) (qAa (qAv .str) (qAa (qAv .str) (qAa (qAv .str) (qAa (qAp 51 (qAa (dO 0) (qAa dS (qAa dB (qAa dS (qAa dB (qAa (dO 1) (qAa dB (qAa dS (qAa dB (qAa dB (qAa dZ (qAa dB (qAa dZ (qAa dB (qAa dZ dNil)))))))))))))))) (qAa (qAp 31 (qAa (dO 2) (qAa dS (qAa dB (qAa dS (qAa dB (qAa dS (qAa dB (qAa dZ (qAa (dO 3) dNil)))))))))) dNil)))))))
def zaa_l0:SubQ:=mkL zaa_d0 (fun x=>zaa_p0 x.1.2.2.2.1 x.1.2.2.2.2.1 x.2.1 x.2.2.2.2.1) fun x r R kn kx kr=>(Sum.elim (fun (r_0:Int)=>kr ⟨[sL 4 (.vI r_0)],[],[.view .node x.2.1,.view .str x.2.2.1,.view .str x.2.2.2.1,.view .str x.2.2.2.2.1]⟩) (fun (r_1:Unit)=>kx 0 ⟨[sL 2 (.hd 4 0),sL 3 (.hd 5 0)],[],[.view .node x.2.1,.view .str x.2.2.1,.view .str x.2.2.2.1,.view .str x.2.2.2.2.1,.cells 51 [.own 0,.vS x.2.2.2.2.2.1.2.1,.vB x.2.2.2.2.2.1.2.2.1,.vS x.2.2.2.2.2.1.2.2.2.1,.vB x.2.2.2.2.2.1.2.2.2.2.1,.own 1,.vB x.2.2.2.2.2.1.2.2.2.2.2.2.1,.vS x.2.2.2.2.2.1.2.2.2.2.2.2.2.1,.vB x.2.2.2.2.2.1.2.2.2.2.2.2.2.2.1,.vB x.2.2.2.2.2.1.2.2.2.2.2.2.2.2.2.1,.vI x.2.2.2.2.2.1.2.2.2.2.2.2.2.2.2.2.1,.vB x.2.2.2.2.2.1.2.2.2.2.2.2.2.2.2.2.2.1,.vI x.2.2.2.2.2.1.2.2.2.2.2.2.2.2.2.2.2.2.1,.vB x.2.2.2.2.2.1.2.2.2.2.2.2.2.2.2.2.2.2.2.1,.vI x.2.2.2.2.2.1.2.2.2.2.2.2.2.2.2.2.2.2.2.2.1],.cells 31 [.own 2,.vS x.2.2.2.2.2.2.1.2.1,.vB x.2.2.2.2.2.2.1.2.2.1,.vS x.2.2.2.2.2.2.1.2.2.2.1,.vB x.2.2.2.2.2.2.1.2.2.2.2.1,.vS x.2.2.2.2.2.2.1.2.2.2.2.2.1,.vB x.2.2.2.2.2.2.1.2.2.2.2.2.2.1,.vI x.2.2.2.2.2.2.1.2.2.2.2.2.2.2.1,.own 3]]⟩)) r
def zaa_L:Nat→SubQ:=tblL [(0,zaa_l0)]
theorem zaa_sub0:qBf zaa_L zaa_G 4 11 57 0 zaa_b0:=qAu (show zaa_L 0=zaa_l0 from by kernel_rfl) fun x R kn kx kr=>qAq (step:=fun y=>qDw x.1.2.2.2.1 y x.2.1 x.2.2.2.2.1) (enc:=fun (y:Int)=>zaa_d0.e ((x.1.1,x.1.2.1,x.1.2.2.1,x.1.2.2.2.1,y,x.1.2.2.2.2.2),x.2)) (fun y=>by kernel_rfl) (fun y ki=>by simp only [qDw,-eq_self,qAc,qAf,obA,obS,slL,slR,qAd]; kernel_rfl) x.1.2.2.2.2.1
theorem zaa_subs:qAr zaa_L zaa_G 4 11 57 zaa_q:=qAl (show qAt zaa_L zaa_G 4 11 57 [(0,zaa_b0)] from ⟨zaa_sub0,tV⟩)
def zaa_da:=(qAa (dVC (dCA (qAa (dO 0) (qAa dS (qAa dB (qAa dS (qAa dB (qAa (dO 1) (qAa dB (qAa dS (qAa dB (qAa dB (qAa dZ (qAa dB (qAa dZ (qAa dB (qAa dZ dNil))))))))))))))))) (qAa (dVC (dCA (qAa (dO 2) (qAa dS (qAa dB (qAa dS (qAa dB (qAa dS (qAa dB (qAa dZ (qAa (dO 3) dNil))))))))))) dNil))
def zaa_db:=(qAa (qAv .node) (qAa (qAv .str) (qAa (qAv .str) (qAa (qAv .str) dNil))))
def zaa_c:CS:=mkC zaa_da zaa_db (fun x y=>zaa_s (⟨y.1,x.1.2.1,x.1.2.2.1,x.1.2.2.2.1,x.1.2.2.2.2.1,y.2.1,x.1.2.2.2.2.2.2.1,x.1.2.2.2.2.2.2.2.1,x.1.2.2.2.2.2.2.2.2.1,(⟨x.1.2.2.2.2.2.2.2.2.2.1,x.1.2.2.2.2.2.2.2.2.2.2.1⟩:qGs),(⟨x.1.2.2.2.2.2.2.2.2.2.2.2.1,x.1.2.2.2.2.2.2.2.2.2.2.2.2.1⟩:qGs),(⟨x.1.2.2.2.2.2.2.2.2.2.2.2.2.2.1,x.1.2.2.2.2.2.2.2.2.2.2.2.2.2.2.1⟩:qGs)⟩:qGn) (⟨y.2.2.1,x.2.1.2.1,x.2.1.2.2.1,x.2.1.2.2.2.1,x.2.1.2.2.2.2.1,x.2.1.2.2.2.2.2.1,x.2.1.2.2.2.2.2.2.1,x.2.1.2.2.2.2.2.2.2.1,y.2.2.2.1⟩:qGv)) (fun x y r=>.c (.o (.vI r))) fun x y r=>[.view .node y.1,.view .str y.2.1,.view .str y.2.2.1,.view .str y.2.2.2.1]
theorem zaa_val:qAn Tryd.prog 34 zaa_c:=qAo zaa_chk 11 zaa_Gok 4 (fun x=>Nat.le_of_ble_eq_true rfl) (fun y=>rfl) zaa_subs fun x y=>by
 simp only [zaa_s,-eq_self,qAc,qAf,obA,obS,slL,slR,qAd]
 kernel_rfl
def zaa_w:CQ:=qB4 [(0,some 0,some (.node,46)),(0,some 5,some (.str,9)),(1,some 0,some (.str,9)),(1,some 8,some (.str,9))] (qCn [false,false,false,false] zaa_c)
theorem zaa_ok:qAg Tryd.prog 34 zaa_w:=qBx zaa_val
def zab_q:IQ:=(.seq (rg 6 [oP 3 (.box 51 15 t0),oP 6 (.mv (vI 0))]) (.seq (.block 0 (.seq (rg 7 [oM 8 t1,oP 9 (.bi .lss t8 (vI 0)),oM 10 t9,oE 11 (.mv t1) 10,oE 12 (.bi .gtr t11 (vI 600)) 10,oP 13 (.pick t10 vT t12),oM 7 t13]) (.cond t7 (.seq (rg 6 [oP 6 (.mv (vI 12))]) (.cn [6] .ret)) (.seq (.reg 14 (some [0,1,2,3,4,5,6,8,9,10,7,11,12,13,14,15,16,17,18,19,20,21,22,23,24,25,26]) [oP 15 (.faddr 9 t3),oP 16 (.faddr 0 t15),oP 17 (.load none t16),oM 18 t17,oF 19 (.mv t2) 18,oF 20 (.mv t1) 18,oF 21 (.un .neg t20) 18,oF 23 (.faddr 9 t3) 18,oF 24 (.faddr 1 t23) 18,oF 25 (.load none t24) 18,oF 22 (.call 62 [t19,t21]) 18,oF 26 (.bi .geq t22 t25) 18,oP 27 (.pick t18 t26 vF),oM 28 t27,oF 29 (.mv t2) 28,oF 30 (.mv t1) 28,oF 31 (.bi .add (.v (.int .i64 (-9223372036854775808))) t30) 28,oF 32 (.bi .lss t29 t31) 28,oF 33 (.mv t32) 28,oF 34 (.faddr 9 t3) 33,oF 35 (.faddr 1 t34) 33,oF 36 (.load none t35) 33,oF 37 (.bi .eql t36 (.v (.int .i64 (-9223372036854775808)))) 33,oF 38 (.pick t33 t37 vF) 28,oF 39 (.un .not t38) 28,oP 40 (.pick t28 t39 vF),oM 14 t40]) (.cond t14 (.seq (rg 6 [oP 6 (.mv (vI 134))]) (.cn [6] .ret)) (.seq (rg 41 [oP 42 (.faddr 11 t3),oP 43 (.faddr 0 t42),oP 44 (.load none t43),oM 45 t44,oF 46 (.mv t2) 45,oF 47 (.faddr 11 t3) 45,oF 48 (.faddr 1 t47) 45,oF 49 (.load none t48) 45,oF 50 (.mv t1) 45,oF 51 (.un .neg t50) 45,oF 52 (.call 62 [t49,t51]) 45,oF 53 (.bi .lss t46 t52) 45,oP 54 (.pick t45 t53 vF),oM 41 t54]) (.cond t41 (.seq (rg 6 [oP 6 (.mv (vI 135))]) (.cn [6] .ret)) (.seq (rg 55 [oP 56 (.faddr 13 t3),oP 57 (.faddr 0 t56),oP 58 (.load none t57),oM 59 t58,oF 60 (.mv t2) 59,oF 61 (.faddr 13 t3) 59,oF 62 (.faddr 1 t61) 59,oF 63 (.load none t62) 59,oF 64 (.mv t1) 59,oF 65 (.un .neg t64) 59,oF 66 (.call 62 [t63,t65]) 59,oF 67 (.bi .lss t60 t66) 59,oP 68 (.pick t59 t67 vF),oM 55 t68]) (.cond t55 (.seq (rg 6 [oP 6 (.mv (vI 136))]) (.cn [6] .ret)) .skip))))))))) (.seq (rg 6 [oP 6 (.mv (vI 0))]) (.cn [6] .ret))))
theorem zab_chk:chk Tryd.prog 35 []=some (zab_q.erase,[.tmp 6],69):=by kernel_rfl
def zab_s (c:qGn) (leeway now:Int):Option Int :=
 bif ((decide (leeway<(0:Int))) || (decide ((600:Int)<leeway))) then (
  some (12:Int))
 else (
  gd (c.exp_.has=true→qAe (0 - leeway)) <|
  (zaf_s now (0 - leeway)).bind fun r1 =>
  gd ((c.exp_.has && (decide (c.exp_.at_≤r1)))=true→qAe ((-9223372036854775808:Int)+leeway)) <|
  bif ((c.exp_.has && (decide (c.exp_.at_≤r1))) && (!((decide (now<((-9223372036854775808:Int)+leeway))) && (decide (c.exp_.at_=(-9223372036854775808:Int)))))) then (
   some (134:Int))
  else (
   gd (c.nbf.has=true→qAe (0 - leeway)) <|
   bif c.nbf.has then (
    (zaf_s c.nbf.at_ (0 - leeway)).bind fun r2 =>
    bif decide (now<r2) then (
     some (135:Int))
    else (
     gd (c.iat.has=true→qAe (0 - leeway)) <|
     bif c.iat.has then (
      (zaf_s c.iat.at_ (0 - leeway)).bind fun r3 =>
      bif decide (now<r3) then (
       some (136:Int))
      else (
       some (0:Int)))
     else (
      some (0:Int))))
   else (
    gd (c.iat.has=true→qAe (0 - leeway)) <|
    bif c.iat.has then (
     (zaf_s c.iat.at_ (0 - leeway)).bind fun r4 =>
     bif decide (now<r4) then (
      some (136:Int))
     else (
      some (0:Int)))
    else (
     some (0:Int)))))
def zab_G:Nat→Option CQ:=tblQ [(62,zaf_w)]
theorem zab_Gok:∀f C,zab_G f=some C→qAg Tryd.prog f C:=qAj ⟨zaf_ok,tV⟩
def zab_L:Nat→SubQ:=tblL []
theorem zab_subs:qAr zab_L zab_G 2 7 69 zab_q:=qAl (show qAt zab_L zab_G 2 7 69 [] from tV)
def zab_da:=(qAa (dVC (dCA (qAa (dO 0) (qAa dS (qAa dB (qAa dS (qAa dB (qAa (dO 1) (qAa dB (qAa dS (qAa dB (qAa dB (qAa dZ (qAa dB (qAa dZ (qAa dB (qAa dZ dNil))))))))))))))))) (qAa (dVC (dCO dZ)) (qAa (dVC (dCO dZ)) dNil)))
def zab_db:=(qAa (qAv .node) (qAa (qAv .str) dNil))
def zab_c:CS:=mkC zab_da zab_db (fun x y=>zab_s (⟨y.1,x.1.2.1,x.1.2.2.1,x.1.2.2.2.1,x.1.2.2.2.2.1,y.2.1,x.1.2.2.2.2.2.2.1,x.1.2.2.2.2.2.2.2.1,x.1.2.2.2.2.2.2.2.2.1,(⟨x.1.2.2.2.2.2.2.2.2.2.1,x.1.2.2.2.2.2.2.2.2.2.2.1⟩:qGs),(⟨x.1.2.2.2.2.2.2.2.2.2.2.2.1,x.1.2.2.2.2.2.2.2.2.2.2.2.2.1⟩:qGs),(⟨x.1.2.2.2.2.2.2.2.2.2.2.2.2.2.1,x.1.2.2.2.2.2.2.2.2.2.2.2.2.2.2.1⟩:qGs)⟩:qGn) x.2.1 x.2.2.1) (fun x y r=>.c (.o (.vI r))) fun x y r=>[.view .node y.1,.view .str y.2.1]
theorem zab_val:qAn Tryd.prog 35 zab_c:=qAo zab_chk 7 zab_Gok 2 (fun x=>Nat.le_of_ble_eq_true rfl) (fun y=>rfl) zab_subs fun x y=>by
 simp only [zab_s,-eq_self,qAc,qAf,obA,obS,slL,slR,qAd]
 kernel_rfl
def zab_w:CQ:=qB4 [(0,some 0,some (.node,46)),(0,some 5,some (.str,9))] (qCn [false,false] zab_c)
theorem zab_ok:qAg Tryd.prog 35 zab_w:=qBx zab_val
def zbm_q:IQ:=(.seq (rg 0 [oP 0 (.mv vF)]) (.seq (rg 2 [oP 7 (.call 23 [(.v (.string ⟨#[123,34,105,115,115,34,58,34,97,34,44,34,97,117,100,34,58,91,34,120,34,44,34,121,34,93,44,34,101,120,112,34,58,49,48,44,34,110,34,58,49,125]⟩))]),oM 6 t7,oP 8 (.extract t6 0),oP 9 (.extract t6 1),oP 1 (.alloc 51 [.slice none 0 0,.string ⟨#[]⟩,.bool false,.string ⟨#[]⟩,.bool false,.slice none 0 0,.bool false,.string ⟨#[]⟩,.bool false,.bool false,.int .i64 0,.bool false,.int .i64 0,.bool false,.int .i64 0]),oN (.store 15 t1 t8),oM 2 t9]) (.seq (rg 4 [oP 11 (.load (some 15) t1),oP 12 (.call 36 [t11,(vI 5)]),oM 10 t12,oP 13 (.extract t10 0),oP 14 (.extract t10 1),oP 3 (.alloc 68 [.bool false,.int .i64 0,.int .i64 0]),oN (.store 3 t3 t13),oM 4 t14]) (.seq (rg 0 [oP 15 (.bslice 9 1 1 [.string ⟨#[]⟩] [(0,(.v (.string ⟨#[110]⟩)))]),oP 16 (.build [.slice none 0 0,.string ⟨#[]⟩,.bool false,.string ⟨#[]⟩,.bool false,.string ⟨#[]⟩,.bool false,.int .i64 0,.slice none 0 0] [(1,1,(.v (.string ⟨#[97]⟩))),(2,1,vT),(3,1,(.v (.string ⟨#[121]⟩))),(4,1,vT),(8,1,t15)]),oP 5 (.alloc 31 [.slice none 0 0,.string ⟨#[]⟩,.bool false,.string ⟨#[]⟩,.bool false,.string ⟨#[]⟩,.bool false,.int .i64 0,.slice none 0 0]),oN (.store 9 t5 t16)]) (.seq (.seq (rg 43 [oM 17 t2,oP 18 (.bi .neq t17 (vI 0)),oM 19 t18,oE 20 (.mv t4) 19,oE 21 (.bi .neq t20 (vI 0)) 19,oP 22 (.pick t19 vT t21),oM 23 t22,oE 24 (.faddr 5 t1) 23,oE 25 (.load none t24) 23,oE 26 (.len t25) 23,oE 27 (.bi .neq t26 (vI 2)) 23,oP 28 (.pick t23 vT t27),oM 29 t28,oE 30 (.faddr 9 t1) 29,oE 31 (.faddr 0 t30) 29,oE 32 (.load none t31) 29,oE 33 (.un .not t32) 29,oP 34 (.pick t29 vT t33),oM 35 t34,oE 36 (.faddr 0 t3) 35,oE 37 (.load none t36) 35,oP 38 (.pick t35 vT t37),oM 39 t38,oE 40 (.faddr 2 t3) 39,oE 41 (.load none t40) 39,oE 42 (.bi .neq t41 (vI 14)) 39,oP 43 (.pick t39 vT t42)]) (.cond t43 (.seq (rg 0 [oP 0 (.mv vF)]) (.cn [0] .ret)) .skip)) (.seq (rg 0 [oP 44 (.load (some 15) t1),oP 45 (.load (some 9) t5),oP 46 (.call 34 [t44,t45]),oP 47 (.bi .eql t46 (vI 0)),oM 48 t47,oF 49 (.load (some 15) t1) 48,oF 50 (.build [.slice none 0 0,.string ⟨#[]⟩,.bool false,.string ⟨#[]⟩,.bool false,.string ⟨#[]⟩,.bool false,.int .i64 0,.slice none 0 0] []) 48,oF 51 (.call 34 [t49,t50]) 48,oF 52 (.bi .eql t51 (vI 133)) 48,oP 53 (.pick t48 t52 vF),oM 54 t53,oF 55 (.load (some 15) t1) 54,oF 56 (.call 35 [t55,(vI 5),(vI 14)]) 54,oF 57 (.bi .eql t56 (vI 0)) 54,oP 58 (.pick t54 t57 vF),oM 59 t58,oF 60 (.load (some 15) t1) 59,oF 61 (.call 35 [t60,(vI 5),(vI 15)]) 59,oF 62 (.bi .eql t61 (vI 134)) 59,oP 63 (.pick t59 t62 vF),oM 0 t63]) (.cn [0] .ret)))))))
theorem zbm_chk:chk Tryd.prog 26 []=some (zbm_q.erase,[.tmp 0],64):=by kernel_rfl
def zbm_s:Option Bool :=
 (zad_s (⟨#[123,34,105,115,115,34,58,34,97,34,44,34,97,117,100,34,58,91,34,120,34,44,34,121,34,93,44,34,101,120,112,34,58,49,48,44,34,110,34,58,49,125]⟩:BA)).bind fun r1 =>
 (zac_s r1.1 (5:Int)).bind fun r2 =>
 bif ((((((!decide (r1.2=(0:Int))) || (!decide (r2.2=(0:Int)))) || (!decide ((r1.1.aud.length:Int)=(2:Int)))) || (!r1.1.exp_.has)) || r2.1.empty) || (!decide (r2.1.to_=(14:Int)))) then (
  some false)
 else (
  (zaa_s r1.1 (⟨[],(⟨#[97]⟩:BA),true,(⟨#[121]⟩:BA),true,(⟨#[]⟩:BA),false,(0:Int),[(⟨#[110]⟩:BA)]⟩:qGv)).bind fun r3 =>
  bif decide (r3=(0:Int)) then (
   (zaa_s r1.1 (⟨[],(⟨#[]⟩:BA),false,(⟨#[]⟩:BA),false,(⟨#[]⟩:BA),false,(0:Int),[]⟩:qGv)).bind fun r4 =>
   bif decide (r4=(133:Int)) then (
    (zab_s r1.1 (5:Int) (14:Int)).bind fun r5 =>
    bif decide (r5=(0:Int)) then (
     (zab_s r1.1 (5:Int) (15:Int)).bind fun r6 =>
     some (decide (r6=(134:Int))))
    else (
     some false))
   else (
    some false))
  else (
   some false))
def zbm_G:Nat→Option CQ:=tblQ [(23,zad_w),(36,zac_w),(34,zaa_w),(35,zab_w)]
theorem zbm_Gok:∀f C,zbm_G f=some C→qAg Tryd.prog f C:=qAj ⟨zad_ok,zac_ok,zaa_ok,zab_ok,tV⟩
def zbm_L:Nat→SubQ:=tblL []
theorem zbm_subs:qAr zbm_L zbm_G 0 6 64 zbm_q:=qAl (show qAt zbm_L zbm_G 0 6 64 [] from tV)
def zbm_da:=(dNil:Dec Unit (List SV))
def zbm_db:=(dNil:Dec Unit (List SB))
def zbm_c:CS:=mkC zbm_da zbm_db (fun x y=>zbm_s) (fun x y r=>.c (.o (.vB r))) fun x y r=>[]
theorem zbm_val:qAn Tryd.prog 26 zbm_c:=qAo zbm_chk 6 zbm_Gok 0 (fun x=>Nat.le_of_ble_eq_true rfl) (fun y=>rfl) zbm_subs fun x y=>by
 simp only [zbm_s,-eq_self,qAc,qAf,obA,obS,slL,slR,qAd]
 kernel_rfl
def zbm_w:CQ:=qCn [] zbm_c
theorem zbm_ok:qAg Tryd.prog 26 zbm_w:=qAw zbm_val
def zbl_b0:IQ:=(.loop [2,3,6,7,8,9,10] (.seq (.seq (rg 75 [oM 71 t10,oP 72 (.faddr 8 t3),oP 73 (.load none t72),oP 74 (.len t73),oP 75 (.bi .lss t71 t74)]) (.cond t75 .skip (.cn [2,3,6,7,8,9] (.exit 0)))) (.seq (.block 1 (.reg 9 (some [0,1,2,3,4,5,6,7,8,9,10,11,12]) [oM 78 t9,oM 79 t78,oE 80 (.faddr 0 t2) 79,oE 81 (.load none t80) 79,oE 82 (.faddr 8 t3) 79,oE 83 (.load none t82) 79,oE 84 (.mv t10) 79,oE 85 (.iaddr 1 t83 t84) 79,oE 86 (.load none t85) 79,oE 87 (.call 21 [t81,(vI 0),t86]) 79,oE 88 (.bi .lss t87 (vI 0)) 79,oP 89 (.pick t79 vT t88),oM 9 t89])) (rg 10 [oM 76 t10,oP 77 (.bi .add t76 (vI 1)),oM 10 t77]))))
def zbl_b1:IQ:=(.loop [2,3,6,7,8,9,11,12] (.seq (.seq (rg 94 [oM 90 t12,oP 91 (.faddr 5 t2),oP 92 (.load none t91),oP 93 (.len t92),oP 94 (.bi .lss t90 t93)]) (.cond t94 .skip (.cn [2,3,6,7,8,9,11] (.exit 2)))) (.seq (.block 3 (.reg 11 (some [0,1,2,3,4,5,6,7,8,9,10,11]) [oM 97 t11,oM 98 t97,oE 99 (.faddr 5 t2) 98,oE 100 (.load none t99) 98,oE 101 (.mv t12) 98,oE 102 (.iaddr 1 t100 t101) 98,oE 103 (.load none t102) 98,oE 104 (.faddr 3 t3) 98,oE 105 (.load none t104) 98,oE 106 (.bi .eql t103 t105) 98,oP 107 (.pick t98 vT t106),oM 11 t107])) (rg 12 [oM 95 t12,oP 96 (.bi .add t95 (vI 1)),oM 12 t96]))))
def zbl_q:IQ:=(.seq (rg 4 [oP 2 (.box 51 15 t0),oP 3 (.box 31 9 t1),oP 4 (.mv vF)]) (.seq (.seq (rg 26 [oP 14 (.call 26 []),oP 15 (.un .not t14),oM 16 t15,oE 17 (.faddr 0 t2) 16,oE 18 (.load none t17) 16,oE 19 (.call 32 [t18]) 16,oP 20 (.pick t16 vT t19),oM 21 t20,oE 22 (.faddr 0 t2) 21,oE 23 (.load none t22) 21,oE 24 (.call 33 [t23]) 21,oE 25 (.un .not t24) 21,oP 26 (.pick t21 vT t25)]) (.cond t26 (.seq (rg 4 [oP 27 (.call 26 []),oM 4 t27]) (.cn [4] .ret)) .skip)) (.seq (rg 0 [oP 28 (.load (some 15) t2),oP 5 (.alloc 51 [.slice none 0 0,.string ⟨#[]⟩,.bool false,.string ⟨#[]⟩,.bool false,.slice none 0 0,.bool false,.string ⟨#[]⟩,.bool false,.bool false,.int .i64 0,.bool false,.int .i64 0,.bool false,.int .i64 0]),oN (.store 15 t5 t28)]) (.seq (rg 0 [oP 29 (.faddr 6 t5),oN (.store 1 t29 vF)]) (.seq (rg 6 [oP 30 (.load (some 15) t5),oP 31 (.faddr 8 t3),oP 32 (.load none t31),oP 33 (.build [.slice none 0 0,.string ⟨#[]⟩,.bool false,.string ⟨#[]⟩,.bool false,.string ⟨#[]⟩,.bool false,.int .i64 0,.slice none 0 0] [(8,1,t32)]),oP 34 (.call 34 [t30,t33]),oM 6 t34]) (.seq (rg 7 [oP 35 (.load (some 15) t5),oP 36 (.faddr 1 t3),oP 37 (.load none t36),oP 38 (.faddr 2 t3),oP 39 (.load none t38),oP 40 (.build [.slice none 0 0,.string ⟨#[]⟩,.bool false,.string ⟨#[]⟩,.bool false,.string ⟨#[]⟩,.bool false,.int .i64 0,.slice none 0 0] [(1,1,t37),(2,1,t39)]),oP 41 (.call 34 [t35,t40]),oM 7 t41]) (.seq (rg 8 [oP 42 (.load (some 15) t2),oP 43 (.faddr 3 t3),oP 44 (.load none t43),oP 45 (.faddr 4 t3),oP 46 (.load none t45),oP 47 (.build [.slice none 0 0,.string ⟨#[]⟩,.bool false,.string ⟨#[]⟩,.bool false,.string ⟨#[]⟩,.bool false,.int .i64 0,.slice none 0 0] [(3,1,t44),(4,1,t46)]),oP 48 (.call 34 [t42,t47]),oM 8 t48]) (.seq (.seq (rg 70 [oM 49 t6,oP 50 (.bi .neq t49 (vI 0)),oM 51 t50,oF 52 (.mv t6) 51,oF 53 (.bi .neq t52 (vI 137)) 51,oP 54 (.pick t51 t53 vF),oM 55 t54,oE 56 (.mv t7) 55,oE 57 (.bi .neq t56 (vI 0)) 55,oE 58 (.mv t57) 55,oF 59 (.mv t7) 58,oF 60 (.bi .neq t59 (vI 132)) 58,oE 61 (.pick t58 t60 vF) 55,oP 62 (.pick t55 vT t61),oM 63 t62,oE 64 (.mv t8) 63,oE 65 (.bi .neq t64 (vI 0)) 63,oE 66 (.mv t65) 63,oF 67 (.mv t8) 66,oF 68 (.bi .neq t67 (vI 133)) 66,oE 69 (.pick t66 t68 vF) 63,oP 70 (.pick t63 vT t69)]) (.cond t70 (.seq (rg 4 [oP 4 (.mv vF)]) (.cn [4] .ret)) .skip)) (.seq (rg 9 [oP 9 (.mv vF)]) (.seq (.seq (rg 10 [oP 10 (.mv (vI 0))]) (.block 0 (.cn [2,3,6,7,8,9,10] (.sub 0 zbl_b0)))) (.seq (rg 11 [oP 11 (.mv vF)]) (.seq (.seq (rg 12 [oP 12 (.mv (vI 0))]) (.block 2 (.cn [2,3,6,7,8,9,11,12] (.sub 1 zbl_b1)))) (.seq (.seq (rg 130 [oM 108 t6,oP 109 (.bi .eql t108 (vI 137)),oM 110 t9,oP 111 (.beq true t109 t110),oM 112 t111,oE 113 (.mv t7) 112,oE 114 (.bi .eql t113 (vI 132)) 112,oE 115 (.faddr 2 t3) 112,oE 116 (.load none t115) 112,oE 117 (.mv t116) 112,oF 118 (.faddr 2 t2) 117,oF 119 (.load none t118) 117,oF 120 (.un .not t119) 117,oF 121 (.mv t120) 117,oE 122 (.faddr 1 t2) 121,oE 123 (.load none t122) 121,oE 124 (.faddr 1 t3) 121,oE 125 (.load none t124) 121,oE 126 (.bi .neq t123 t125) 121,oF 127 (.pick t121 vT t126) 117,oE 128 (.pick t117 t127 vF) 112,oE 129 (.beq true t114 t128) 112,oP 130 (.pick t112 vT t129)]) (.cond t130 (.seq (rg 4 [oP 4 (.mv vF)]) (.cn [4] .ret)) .skip)) (.seq (.seq (rg 152 [oM 131 t8,oP 132 (.bi .eql t131 (vI 0)),oP 133 (.faddr 4 t3),oP 134 (.load none t133),oM 135 t134,oF 136 (.faddr 6 t2) 135,oF 137 (.load none t136) 135,oP 138 (.pick t135 t137 vF),oM 139 t138,oF 140 (.mv t11) 139,oP 141 (.pick t139 t140 vF),oM 142 t141,oE 143 (.faddr 4 t3) 142,oE 144 (.load none t143) 142,oE 145 (.un .not t144) 142,oE 146 (.mv t145) 142,oF 147 (.faddr 6 t2) 146,oF 148 (.load none t147) 146,oF 149 (.un .not t148) 146,oE 150 (.pick t146 t149 vF) 142,oP 151 (.pick t142 vT t150),oP 152 (.beq true t132 t151)]) (.cond t152 (.seq (rg 4 [oP 4 (.mv vF)]) (.cn [4] .ret)) .skip)) (.seq (rg 13 [oP 153 (.load (some 15) t2),oP 154 (.load (some 9) t3),oP 155 (.call 34 [t153,t154]),oM 13 t155]) (.seq (.block 4 (.seq (rg 156 [oM 157 t6,oP 158 (.bi .neq t157 (vI 0)),oM 156 t158]) (.cond t156 (.seq (rg 4 [oM 159 t13,oM 160 t6,oP 161 (.bi .eql t159 t160),oM 4 t161]) (.cn [4] .ret)) (.seq (rg 162 [oM 163 t7,oP 164 (.bi .neq t163 (vI 0)),oM 162 t164]) (.cond t162 (.seq (rg 4 [oM 165 t13,oM 166 t7,oP 167 (.bi .eql t165 t166),oM 4 t167]) (.cn [4] .ret)) .skip))))) (.seq (rg 4 [oM 168 t13,oM 169 t8,oP 170 (.bi .eql t168 t169),oM 4 t170]) (.cn [4] .ret))))))))))))))))))
theorem zbl_chk:chk Tryd.prog 10 []=some (zbl_q.erase,[.tmp 4],171):=by kernel_rfl
def qFb (missing:Bool) (i:Int) (c_value:List Eng.Node) (p_need:List BA):Option ((Bool × Int) ⊕ Bool) :=
 bif decide (i<(p_need.length:Int)) then (
  gd (missing=false→0≤i∧i<p_need.length) <|
  gd (missing=false→(Int.toNat i)<p_need.length) <|
  (zao_s c_value (0:Int) (p_need.getD (Int.toNat i) (ET.dft .str))).bind fun r52 =>
  gd (qAe (i+(1:Int))) <|
  some (.inl ((missing || (decide (r52<(0:Int)))),(i+(1:Int)))))
 else (
  some (.inr missing))
def zbl_p0 (missing:Bool) (i:Int) (c_value:List Eng.Node) (p_need:List BA):Option Bool :=
 qA3 (fun x:(Bool × Int)=>qFb x.1 x.2 c_value p_need) (missing,i)
def qE3 (in_:Bool) (i:Int) (c_aud:List BA) (qHn:BA):Option ((Bool × Int) ⊕ Bool) :=
 bif decide (i<(c_aud.length:Int)) then (
  gd (in_=false→0≤i∧i<c_aud.length) <|
  gd (in_=false→(Int.toNat i)<c_aud.length) <|
  gd (qAe (i+(1:Int))) <|
  some (.inl ((in_ || (decide ((c_aud.getD (Int.toNat i) (ET.dft .str))=qHn))),(i+(1:Int)))))
 else (
  some (.inr in_))
def zbl_p1 (in_:Bool) (i:Int) (c_aud:List BA) (qHn:BA):Option Bool :=
 qA3 (fun x:(Bool × Int)=>qE3 x.1 x.2 c_aud qHn) (in_,i)
def zbl_s (c:qGn) (p:qGv):Option Bool :=
 (zbm_s).bind fun r43 =>
 bif (!r43) then (
  (zbm_s).bind fun r44 =>
  some r44)
 else (
  (zbs_s c.value).bind fun r45 =>
  bif r45 then (
   (zbm_s).bind fun r46 =>
   some r46)
  else (
   (zbt_s c.value).bind fun r47 =>
   bif (!r47) then (
    (zbm_s).bind fun r48 =>
    some r48)
   else (
    (zaa_s (⟨c.value,c.iss,c.hasIss,c.sub,c.hasSub,c.aud,false,c.jti,c.hasJti,c.exp_,c.nbf,c.iat⟩:qGn) (⟨[],(⟨#[]⟩:BA),false,(⟨#[]⟩:BA),false,(⟨#[]⟩:BA),false,(0:Int),p.need⟩:qGv)).bind fun r49 =>
    (zaa_s (⟨c.value,c.iss,c.hasIss,c.sub,c.hasSub,c.aud,false,c.jti,c.hasJti,c.exp_,c.nbf,c.iat⟩:qGn) (⟨[],p.iss,p.hasIss,(⟨#[]⟩:BA),false,(⟨#[]⟩:BA),false,(0:Int),[]⟩:qGv)).bind fun r50 =>
    (zaa_s c (⟨[],(⟨#[]⟩:BA),false,p.aud,p.hasAud,(⟨#[]⟩:BA),false,(0:Int),[]⟩:qGv)).bind fun r51 =>
    bif ((((!decide (r49=(0:Int))) && (!decide (r49=(137:Int)))) || ((!decide (r50=(0:Int))) && (!decide (r50=(132:Int))))) || ((!decide (r51=(0:Int))) && (!decide (r51=(133:Int))))) then (
     some false)
    else (
     (zbl_p0 false (0:Int) c.value p.need).bind fun o53 =>
     (zbl_p1 false (0:Int) c.aud p.aud).bind fun o54 =>
     bif ((!((decide (r49=(137:Int))) == o53)) || (!((decide (r50=(132:Int))) == (p.hasIss && ((!c.hasIss) || (!decide (c.iss=p.iss))))))) then (
      some false)
     else (
      bif (!((decide (r51=(0:Int))) == (((p.hasAud && c.hasAud) && o54) || ((!p.hasAud) && (!c.hasAud))))) then (
       some false)
      else (
       (zaa_s c p).bind fun r55 =>
       bif (!decide (r49=(0:Int))) then (
        some (decide (r55=r49)))
       else (
        bif (!decide (r50=(0:Int))) then (
         some (decide (r55=r50)))
        else (
         some (decide (r55=r51))))))))))
def zbl_G:Nat→Option CQ:=tblQ [(26,zbm_w),(32,zbs_w),(33,zbt_w),(34,zaa_w),(21,zao_w)]
theorem zbl_Gok:∀f C,zbl_G f=some C→qAg Tryd.prog f C:=qAj ⟨zbm_ok,zbs_ok,zbt_ok,zaa_ok,zao_ok,tV⟩
def zbl_d0:=(dQS (qAa (dSO 2 (dH 4 0)) (qAa (dSO 3 (dH 5 0)) (qAa (dSO 6 dZ) (qAa (dSO 7 dZ) (qAa (dSO 8 dZ) (qAa (dSO 9 dB) (qAa (dSO 10 dZ) dNil))))))) (qAa (qAv .node) (qAa (qAv .str) (qAa (qAv .str) (qAa (qAv .str) (qAa (qAp 51 (qAa (dO 0) (qAa dS (qAa dB (qAa dS (qAa dB (qAa (dO 1) (qAa dB (qAa dS (qAa dB (qAa dB (qAa dZ (qAa dB (qAa dZ (qAa dB (qAa dZ dNil)))))))))))))))) (qAa (qAp 31 (qAa (dO 2) (qAa dS (qAa dB (qAa dS (qAa dB (qAa dS (qAa dB (qAa dZ (qAa (dO 3) dNil)))))))))) dNil)))))))
def zbl_l0:SubQ:=mkL zbl_d0 (fun x=>zbl_p0 x.1.2.2.2.2.2.1 x.1.2.2.2.2.2.2.1 x.2.1 x.2.2.2.2.1) fun x r R kn kx kr=>kx 0 ⟨[sL 2 (.hd 4 0),sL 3 (.hd 5 0),sL 6 (.vI x.1.2.2.1),sL 7 (.vI x.1.2.2.2.1),sL 8 (.vI x.1.2.2.2.2.1),sL 9 (.vB r)],[],[.view .node x.2.1,.view .str x.2.2.1,.view .str x.2.2.2.1,.view .str x.2.2.2.2.1,.cells 51 [.own 0,.vS x.2.2.2.2.2.1.2.1,.vB x.2.2.2.2.2.1.2.2.1,.vS x.2.2.2.2.2.1.2.2.2.1,.vB x.2.2.2.2.2.1.2.2.2.2.1,.own 1,.vB x.2.2.2.2.2.1.2.2.2.2.2.2.1,.vS x.2.2.2.2.2.1.2.2.2.2.2.2.2.1,.vB x.2.2.2.2.2.1.2.2.2.2.2.2.2.2.1,.vB x.2.2.2.2.2.1.2.2.2.2.2.2.2.2.2.1,.vI x.2.2.2.2.2.1.2.2.2.2.2.2.2.2.2.2.1,.vB x.2.2.2.2.2.1.2.2.2.2.2.2.2.2.2.2.2.1,.vI x.2.2.2.2.2.1.2.2.2.2.2.2.2.2.2.2.2.2.1,.vB x.2.2.2.2.2.1.2.2.2.2.2.2.2.2.2.2.2.2.2.1,.vI x.2.2.2.2.2.1.2.2.2.2.2.2.2.2.2.2.2.2.2.2.1],.cells 31 [.own 2,.vS x.2.2.2.2.2.2.1.2.1,.vB x.2.2.2.2.2.2.1.2.2.1,.vS x.2.2.2.2.2.2.1.2.2.2.1,.vB x.2.2.2.2.2.2.1.2.2.2.2.1,.vS x.2.2.2.2.2.2.1.2.2.2.2.2.1,.vB x.2.2.2.2.2.2.1.2.2.2.2.2.2.1,.vI x.2.2.2.2.2.2.1.2.2.2.2.2.2.2.1,.own 3]]⟩
def zbl_d1:=(dQS (qAa (dSO 2 (dH 4 0)) (qAa (dSO 3 (dH 5 0)) (qAa (dSO 6 dZ) (qAa (dSO 7 dZ) (qAa (dSO 8 dZ) (qAa (dSO 9 dB) (qAa (dSO 11 dB) (qAa (dSO 12 dZ) dNil)))))))) (qAa (qAv .node) (qAa (qAv .str) (qAa (qAv .str) (qAa (qAv .str) (qAa (qAp 51 (qAa (dO 0) (qAa dS (qAa dB (qAa dS (qAa dB (qAa (dO 1) (qAa dB (qAa dS (qAa dB (qAa dB (qAa dZ (qAa dB (qAa dZ (qAa dB (qAa dZ dNil)))))))))))))))) (qAa (qAp 31 (qAa (dO 2) (qAa dS (qAa dB (qAa dS (qAa dB (qAa dS (qAa dB (qAa dZ (qAa (dO 3) dNil)))))))))) dNil)))))))
def zbl_l1:SubQ:=mkL zbl_d1 (fun x=>zbl_p1 x.1.2.2.2.2.2.2.1 x.1.2.2.2.2.2.2.2.1 x.2.2.1 x.2.2.2.2.2.2.1.2.2.2.1) fun x r R kn kx kr=>kx 2 ⟨[sL 2 (.hd 4 0),sL 3 (.hd 5 0),sL 6 (.vI x.1.2.2.1),sL 7 (.vI x.1.2.2.2.1),sL 8 (.vI x.1.2.2.2.2.1),sL 9 (.vB x.1.2.2.2.2.2.1),sL 11 (.vB r)],[],[.view .node x.2.1,.view .str x.2.2.1,.view .str x.2.2.2.1,.view .str x.2.2.2.2.1,.cells 51 [.own 0,.vS x.2.2.2.2.2.1.2.1,.vB x.2.2.2.2.2.1.2.2.1,.vS x.2.2.2.2.2.1.2.2.2.1,.vB x.2.2.2.2.2.1.2.2.2.2.1,.own 1,.vB x.2.2.2.2.2.1.2.2.2.2.2.2.1,.vS x.2.2.2.2.2.1.2.2.2.2.2.2.2.1,.vB x.2.2.2.2.2.1.2.2.2.2.2.2.2.2.1,.vB x.2.2.2.2.2.1.2.2.2.2.2.2.2.2.2.1,.vI x.2.2.2.2.2.1.2.2.2.2.2.2.2.2.2.2.1,.vB x.2.2.2.2.2.1.2.2.2.2.2.2.2.2.2.2.2.1,.vI x.2.2.2.2.2.1.2.2.2.2.2.2.2.2.2.2.2.2.1,.vB x.2.2.2.2.2.1.2.2.2.2.2.2.2.2.2.2.2.2.2.1,.vI x.2.2.2.2.2.1.2.2.2.2.2.2.2.2.2.2.2.2.2.2.1],.cells 31 [.own 2,.vS x.2.2.2.2.2.2.1.2.1,.vB x.2.2.2.2.2.2.1.2.2.1,.vS x.2.2.2.2.2.2.1.2.2.2.1,.vB x.2.2.2.2.2.2.1.2.2.2.2.1,.vS x.2.2.2.2.2.2.1.2.2.2.2.2.1,.vB x.2.2.2.2.2.2.1.2.2.2.2.2.2.1,.vI x.2.2.2.2.2.2.1.2.2.2.2.2.2.2.1,.own 3]]⟩
def zbl_L:Nat→SubQ:=tblL [(0,zbl_l0),(1,zbl_l1)]
theorem zbl_sub0:qBf zbl_L zbl_G 4 14 171 0 zbl_b0:=qAu (show zbl_L 0=zbl_l0 from by kernel_rfl) fun x R kn kx kr=>qAq (step:=fun y=>qFb y.1 y.2 x.2.1 x.2.2.2.2.1) (enc:=fun (y:Bool × Int)=>zbl_d0.e ((x.1.1,x.1.2.1,x.1.2.2.1,x.1.2.2.2.1,x.1.2.2.2.2.1,y.1,y.2,x.1.2.2.2.2.2.2.2),x.2)) (fun y=>by kernel_rfl) (fun y ki=>by simp only [qFb,-eq_self,qAc,qAf,obA,obS,slL,slR,qAd]; kernel_rfl) (x.1.2.2.2.2.2.1,x.1.2.2.2.2.2.2.1)
theorem zbl_sub1:qBf zbl_L zbl_G 4 14 171 1 zbl_b1:=qAu (show zbl_L 1=zbl_l1 from by kernel_rfl) fun x R kn kx kr=>qAq (step:=fun y=>qE3 y.1 y.2 x.2.2.1 x.2.2.2.2.2.2.1.2.2.2.1) (enc:=fun (y:Bool × Int)=>zbl_d1.e ((x.1.1,x.1.2.1,x.1.2.2.1,x.1.2.2.2.1,x.1.2.2.2.2.1,x.1.2.2.2.2.2.1,y.1,y.2,x.1.2.2.2.2.2.2.2.2),x.2)) (fun y=>by kernel_rfl) (fun y ki=>by simp only [qE3,-eq_self,qAc,qAf,obA,obS,slL,slR,qAd]; kernel_rfl) (x.1.2.2.2.2.2.2.1,x.1.2.2.2.2.2.2.2.1)
theorem zbl_subs:qAr zbl_L zbl_G 4 14 171 zbl_q:=qAl (show qAt zbl_L zbl_G 4 14 171 [(0,zbl_b0),(1,zbl_b1)] from ⟨zbl_sub0,zbl_sub1,tV⟩)
def zbl_da:=(qAa (dVC (dCA (qAa (dO 0) (qAa dS (qAa dB (qAa dS (qAa dB (qAa (dO 1) (qAa dB (qAa dS (qAa dB (qAa dB (qAa dZ (qAa dB (qAa dZ (qAa dB (qAa dZ dNil))))))))))))))))) (qAa (dVC (dCA (qAa (dO 2) (qAa dS (qAa dB (qAa dS (qAa dB (qAa dS (qAa dB (qAa dZ (qAa (dO 3) dNil))))))))))) dNil))
def zbl_db:=(qAa (qAv .node) (qAa (qAv .str) (qAa (qAv .str) (qAa (qAv .str) dNil))))
def zbl_c:CS:=mkC zbl_da zbl_db (fun x y=>zbl_s (⟨y.1,x.1.2.1,x.1.2.2.1,x.1.2.2.2.1,x.1.2.2.2.2.1,y.2.1,x.1.2.2.2.2.2.2.1,x.1.2.2.2.2.2.2.2.1,x.1.2.2.2.2.2.2.2.2.1,(⟨x.1.2.2.2.2.2.2.2.2.2.1,x.1.2.2.2.2.2.2.2.2.2.2.1⟩:qGs),(⟨x.1.2.2.2.2.2.2.2.2.2.2.2.1,x.1.2.2.2.2.2.2.2.2.2.2.2.2.1⟩:qGs),(⟨x.1.2.2.2.2.2.2.2.2.2.2.2.2.2.1,x.1.2.2.2.2.2.2.2.2.2.2.2.2.2.2.1⟩:qGs)⟩:qGn) (⟨y.2.2.1,x.2.1.2.1,x.2.1.2.2.1,x.2.1.2.2.2.1,x.2.1.2.2.2.2.1,x.2.1.2.2.2.2.2.1,x.2.1.2.2.2.2.2.2.1,x.2.1.2.2.2.2.2.2.2.1,y.2.2.2.1⟩:qGv)) (fun x y r=>.c (.o (.vB r))) fun x y r=>[.view .node y.1,.view .str y.2.1,.view .str y.2.2.1,.view .str y.2.2.2.1]
theorem zbl_val:qAn Tryd.prog 10 zbl_c:=qAo zbl_chk 14 zbl_Gok 4 (fun x=>Nat.le_of_ble_eq_true rfl) (fun y=>rfl) zbl_subs fun x y=>by
 simp only [zbl_s,-eq_self,qAc,qAf,obA,obS,slL,slR,qAd]
 kernel_rfl
end
end Go.Proofs.YticplgndjpljiaaDoor
