/-
  Functions as the engine reads them (printed by gen.py).
-/
import Derived.Test.YticplgndjpljiaaDoorEngO
import Derived.Test.YticplgndjpljiaaDoorProg
import Derived.Test.YticplgndjpljiaaDoorPShape
import Derived.Test.YticplgndjpljiaaDoorGC
import Derived.Test.YticplgndjpljiaaDoorPShaped
import Derived.Test.YticplgndjpljiaaDoorJP
import Derived.Test.YticplgndjpljiaaDoorPLexQ
import Derived.Test.YticplgndjpljiaaDoorJW
namespace Go.Proofs.YticplgndjpljiaaDoor
open Go.Eng
set_option linter.unusedVariables false
set_option linter.unusedSimpArgs false
set_option maxRecDepth 100000
noncomputable section
structure qHn where
 empty:Bool
 from_:Int
 to_:Int
structure qHq where
 algs:(List BA)
 iss:BA
 hasIss:Bool
 aud:BA
 hasAud:Bool
 typ:BA
 hasTyp:Bool
 leeway:Int
 need:(List BA)
structure qHg where
 high:Int
 low:Int
def zaf_q:IQ:=(.seq (rg 4 [oP 4 (.mv (vI 0))]) (.seq (.block 0 (.seq (rg 5 [oM 6 t1,oP 7 (.bi .gtr t6 (vI 0)),oM 8 t7,oF 9 (.mv t0) 8,oF 10 (.mv t1) 8,oF 11 (.bi .sub (vI 9223372036854775807) t10) 8,oF 12 (.bi .gtr t9 t11) 8,oP 13 (.pick t8 t12 vF),oM 5 t13]) (.cond t5 (.seq (rg 4 [oP 4 (.mv (vI 9223372036854775807))]) (.cn [4] .ret)) (.seq (rg 14 [oM 15 t1,oP 16 (.bi .lss t15 (vI 0)),oM 17 t16,oF 18 (.mv t0) 17,oF 19 (.mv t1) 17,oF 20 (.bi .sub (.v (.int .i64 (-9223372036854775808))) t19) 17,oF 21 (.bi .lss t18 t20) 17,oP 22 (.pick t17 t21 vF),oM 14 t22]) (.cond t14 (.seq (rg 4 [oP 4 (.mv (.v (.int .i64 (-9223372036854775808))))]) (.cn [4] .ret)) .skip))))) (.seq (rg 4 [oM 23 t0,oM 24 t1,oP 25 (.bi .add t23 t24),oM 4 t25]) (.cn [4] .ret))))
theorem zaf_chk:chk Tryd.prog 62 []=some (zaf_q.erase,[.tmp 4],26):=by kernel_rfl
def zaf_s (a b:Int):Option Int :=
 gd ((decide ((0:Int)<b))=true→qAc ((9223372036854775807:Int) - b)) <|
 bif ((decide ((0:Int)<b)) && (decide (((9223372036854775807:Int) - b)<a))) then (
  some (9223372036854775807:Int))
 else (
  gd ((decide (b<(0:Int)))=true→qAc ((-9223372036854775808:Int) - b)) <|
  bif ((decide (b<(0:Int))) && (decide (a<((-9223372036854775808:Int) - b)))) then (
   some (-9223372036854775808:Int))
  else (
   gd (qAc (a+b)) <|
   some (a+b)))
def zaf_G:Nat→Option CQ:=tblQ []
theorem zaf_Gok:∀f C,zaf_G f=some C→qAg Tryd.prog f C:=fun f C h=>by cases h
def zaf_L:Nat→SubQ:=tblL []
theorem zaf_subs:qAp zaf_L zaf_G 0 5 26 zaf_q:=qAm (show qAq zaf_L zaf_G 0 5 26 [] from tV)
def zaf_da:=(qAa (dVC (dCO dZ)) (qAa (dVC (dCO dZ)) dNil))
def zaf_db:=(dNil:Dec Unit (List SB))
def zaf_c:CS:=mkC zaf_da zaf_db (fun x y=>zaf_s x.1 x.2.1) (fun x y r=>.c (.o (.vI r))) fun x y r=>[]
theorem zaf_val:qAo Tryd.prog 62 zaf_c:=qAn zaf_chk 5 zaf_Gok 0 (fun x=>Nat.le_of_ble_eq_true rfl) (fun y=>rfl) zaf_subs fun x y=>by
 simp only [zaf_s,-eq_self,qAe,qAh,obA,obS,slL,slR,qAd]
 kernel_rfl
def zaf_w:CQ:=qEl [] zaf_c
theorem zaf_ok:qAg Tryd.prog 62 zaf_w:=qA2 zaf_val
def zac_b1:IQ:=(.loop [1,4,6,7,39,40,41] (.seq (rg 42 [oP 42 (.bi .lss t41 t40)]) (.seq (.cond t42 .skip (.cn [4,6,7] (.exit 0))) (.seq (.block 1 (.seq (rg 0 [oP 43 (.iaddr 2 t39 t41),oP 44 (.load (some 2) t43),oP 9 (.alloc 49 [.bool false,.int .i64 0]),oN (.store 2 t9 t44)]) (.seq (rg 46 [oP 45 (.faddr 0 t9),oP 46 (.load none t45)]) (.cond t46 (rg 6 [oM 47 t6,oP 48 (.faddr 1 t9),oP 49 (.load none t48),oM 50 t1,oP 51 (.un .neg t50),oP 52 (.call 62 [t49,t51]),oP 53 (.mm true t47 t52),oM 6 t53]) .skip)))) (rg 41 [oP 54 (.bi .add t41 (vI 1)),oM 41 t54])))))
def zac_b0:IQ:=(.seq (.seq (rg 41 [oP 35 (.faddr 11 t2),oP 36 (.load (some 2) t35),oP 37 (.faddr 13 t2),oP 38 (.load (some 2) t37),oP 39 (.bslice 49 2 2 [.bool false,.int .i64 0] [(0,t36),(1,t38)]),oP 40 (.len t39),oP 41 (.mv (vI 0))]) (.block 0 (.cn [1,4,6,7,39,40,41] (.sub 1 zac_b1)))) (.seq (.seq (rg 57 [oM 55 t7,oM 56 t6,oP 57 (.bi .lss t55 t56)]) (.cond t57 (.seq (rg 5 [oP 58 (.build [.bool false,.int .i64 0,.int .i64 0] [(0,1,vT)]),oN (.store 3 t4 t58),oP 5 (.mv (vI 0))]) (.cn [4,5] .ret)) .skip)) (.seq (rg 5 [oM 59 t6,oM 60 t7,oP 61 (.build [.bool false,.int .i64 0,.int .i64 0] [(1,1,t59),(2,1,t60)]),oN (.store 3 t4 t61),oP 5 (.mv (vI 0))]) (.cn [4,5] .ret))))
def zac_q:IQ:=(.seq (rg 5 [oP 2 (.box 51 15 t0),oP 4 (.alloc 68 [.bool false,.int .i64 0,.int .i64 0]),oP 5 (.mv (vI 0))]) (.seq (.seq (rg 15 [oM 10 t1,oP 11 (.bi .lss t10 (vI 0)),oM 12 t11,oE 13 (.mv t1) 12,oE 14 (.bi .gtr t13 (vI 600)) 12,oP 15 (.pick t12 vT t14)]) (.cond t15 (.seq (rg 5 [oP 16 (.build [.bool false,.int .i64 0,.int .i64 0] []),oN (.store 3 t4 t16),oP 5 (.mv (vI 12))]) (.cn [4,5] .ret)) .skip)) (.seq (rg 7 [oP 6 (.mv (.v (.int .i64 (-9223372036854775808)))),oP 7 (.mv (vI 9223372036854775807))]) (.seq (.seq (rg 19 [oP 17 (.faddr 9 t2),oP 18 (.faddr 0 t17),oP 19 (.load none t18)]) (.cond t19 (.seq (.seq (rg 27 [oP 20 (.faddr 9 t2),oP 21 (.faddr 1 t20),oP 22 (.load none t21),oP 23 (.bi .eql t22 (.v (.int .i64 (-9223372036854775808)))),oM 24 t23,oF 25 (.mv t1) 24,oF 26 (.bi .eql t25 (vI 0)) 24,oP 27 (.pick t24 t26 vF)]) (.cond t27 (.seq (rg 5 [oP 28 (.build [.bool false,.int .i64 0,.int .i64 0] [(0,1,vT)]),oN (.store 3 t4 t28),oP 5 (.mv (vI 0))]) (.cn [4,5] .ret)) .skip)) (rg 7 [oP 29 (.faddr 9 t2),oP 30 (.faddr 1 t29),oP 31 (.load none t30),oM 32 t1,oP 33 (.bi .sub t32 (vI 1)),oP 34 (.call 62 [t31,t33]),oM 7 t34])) .skip)) (.cn [1,2,4,6,7] (.sub 0 zac_b0))))))
theorem zac_chk:chk Tryd.prog 36 []=some (zac_q.erase,[.cell 4 (some 3),.tmp 5],62):=by kernel_rfl
def qFn (leeway from_ x40_ x41_:Int) (x39_:List Eng.Tm):Option ((Int × Int) ⊕ Int) :=
 bif decide (x41_<x40_) then (
  gd (0≤x41_∧x41_<x39_.length) <|
  gd ((Int.toNat x41_)<x39_.length) <|
  bif (x39_.getD (Int.toNat x41_) (ET.dft .tm)).has then (
   gd (qAc (0 - leeway)) <|
   (zaf_s ((x39_.getD (Int.toNat x41_) (ET.dft .tm)).at_) (0 - leeway)).bind fun r6 =>
   gd (qAc (x41_+(1:Int))) <|
   some (.inl ((if r6 > from_ then r6 else from_),(x41_+(1:Int)))))
  else (
   gd (qAc (x41_+(1:Int))) <|
   some (.inl (from_,(x41_+(1:Int))))))
 else (
  some (.inr from_))
def zac_p1 (leeway from_ x40_ x41_:Int) (x39_:List Eng.Tm):Option Int :=
 qBe (fun x:(Int × Int)=>qFn leeway x.1 x40_ x.2 x39_) (from_,x41_)
def zac_p0 (leeway from_ to_:Int) (qHi:Bool) (qHl:Int) (qHj:Bool) (qHm:Int):Option (Int × Bool × Int × Int) :=
 (zac_p1 leeway from_ ([(⟨qHi,qHl⟩:Eng.Tm),(⟨qHj,qHm⟩:Eng.Tm)].length:Int) (0:Int) [(⟨qHi,qHl⟩:Eng.Tm),(⟨qHj,qHm⟩:Eng.Tm)]).bind fun o7 =>
 bif decide (to_<o7) then (
  some ((0:Int),true,(0:Int),(0:Int)))
 else (
  some ((0:Int),false,o7,to_))
def zac_s (c:qG4) (leeway:Int):Option (qHn × Int) :=
 bif ((decide (leeway<(0:Int))) || (decide ((600:Int)<leeway))) then (
  some ((⟨false,(0:Int),(0:Int)⟩:qHn),(12:Int)))
 else (
  bif c.exp_.has then (
   bif ((decide (c.exp_.at_=(-9223372036854775808:Int))) && (decide (leeway=(0:Int)))) then (
    some ((⟨true,(0:Int),(0:Int)⟩:qHn),(0:Int)))
   else (
    gd (qAc (leeway - (1:Int))) <|
    (zaf_s c.exp_.at_ (leeway - (1:Int))).bind fun r5 =>
    (zac_p0 leeway (-9223372036854775808:Int) r5 c.nbf.has c.nbf.at_ c.iat.has c.iat.at_).bind fun o8 =>
    some ((⟨o8.2.1,o8.2.2.1,o8.2.2.2⟩:qHn),o8.1)))
  else (
   (zac_p0 leeway (-9223372036854775808:Int) (9223372036854775807:Int) c.nbf.has c.nbf.at_ c.iat.has c.iat.at_).bind fun o9 =>
   some ((⟨o9.2.1,o9.2.2.1,o9.2.2.2⟩:qHn),o9.1)))
def zac_G:Nat→Option CQ:=tblQ [(62,zaf_w)]
theorem zac_Gok:∀f C,zac_G f=some C→qAg Tryd.prog f C:=qAl ⟨zaf_ok,tV⟩
def zac_d1:=(dQS (qAa (dSO 1 dZ) (qAa (dSO 4 (dH 2 0)) (qAa (dSO 6 dZ) (qAa (dSO 7 dZ) (qAa (dSO 39 (dO 3)) (qAa (dSO 40 dZ) (qAa (dSO 41 dZ) dNil))))))) (qAa (qAu .node) (qAa (qAu .str) (qAa (qAs 68 (qAa dB (qAa dZ (qAa dZ dNil)))) (qAa (dRow .tm 49) dNil)))))
def zac_l1:SubQ:=mkL zac_d1 (fun x=>zac_p1 x.1.1 x.1.2.2.1 x.1.2.2.2.2.2.1 x.1.2.2.2.2.2.2.1 x.2.2.2.2.1) fun x r R kn kx kr=>kx 0 ⟨[sL 4 (.hd 2 0),sL 6 (.vI r),sL 7 (.vI x.1.2.2.2.1)],[],[.view .node x.2.1,.view .str x.2.2.1,.cells 68 [.vB x.2.2.2.1.1,.vI x.2.2.2.1.2.1,.vI x.2.2.2.1.2.2.1]]⟩
def zac_d0:=(dQS (qAa (dSO 1 dZ) (qAa (dSO 2 (dH 2 0)) (qAa (dSO 4 (dH 3 0)) (qAa (dSO 6 dZ) (qAa (dSO 7 dZ) dNil))))) (qAa (qAu .node) (qAa (qAu .str) (qAa (qAs 51 (qAa (dO 0) (qAa dS (qAa dB (qAa dS (qAa dB (qAa (dO 1) (qAa dB (qAa dS (qAa dB (qAa dB (qAa dZ (qAa dB (qAa dZ (qAa dB (qAa dZ dNil)))))))))))))))) (qAa (qAs 68 (qAa dB (qAa dZ (qAa dZ dNil)))) dNil)))))
def zac_l0:SubQ:=mkL zac_d0 (fun x=>zac_p0 x.1.1 x.1.2.2.2.1 x.1.2.2.2.2.1 x.2.2.2.1.2.2.2.2.2.2.2.2.2.2.2.1 x.2.2.2.1.2.2.2.2.2.2.2.2.2.2.2.2.1 x.2.2.2.1.2.2.2.2.2.2.2.2.2.2.2.2.2.1 x.2.2.2.1.2.2.2.2.2.2.2.2.2.2.2.2.2.2.1) fun x r R kn kx kr=>kr ⟨[sL 4 (.hd 2 0),sL 5 (.vI r.1)],[],[.view .node x.2.1,.view .str x.2.2.1,.cells 68 [.vB r.2.1,.vI r.2.2.1,.vI r.2.2.2]]⟩
def zac_L:Nat→SubQ:=tblL [(1,zac_l1),(0,zac_l0)]
theorem zac_sub1:qCn zac_L zac_G 2 42 62 1 zac_b1:=qA5 (show zac_L 1=zac_l1 from by kernel_rfl) fun x R kn kx kr=>qAz (step:=fun y=>qFn x.1.1 y.1 x.1.2.2.2.2.2.1 y.2 x.2.2.2.2.1) (enc:=fun (y:Int × Int)=>zac_d1.e ((x.1.1,x.1.2.1,y.1,x.1.2.2.2.1,x.1.2.2.2.2.1,x.1.2.2.2.2.2.1,y.2,x.1.2.2.2.2.2.2.2),x.2)) (fun y=>by kernel_rfl) (fun y ki=>by simp only [qFn,-eq_self,qAe,qAh,obA,obS,slL,slR,qAd]; kernel_rfl) (x.1.2.2.1,x.1.2.2.2.2.2.2.1)
theorem zac_sub0:qCn zac_L zac_G 2 42 62 0 zac_b0:=qA5 (show zac_L 0=zac_l0 from by kernel_rfl) fun x R kn kx kr=>by
 simp only [zac_p0,-eq_self,qAe,qAh,obA,obS,slL,slR,qAd]
 kernel_rfl
theorem zac_subs:qAp zac_L zac_G 2 42 62 zac_q:=qAm (show qAq zac_L zac_G 2 42 62 [(0,zac_b0),(1,zac_b1)] from ⟨zac_sub0,zac_sub1,tV⟩)
def zac_da:=(qAa (dVC (dCA (qAa (dO 0) (qAa dS (qAa dB (qAa dS (qAa dB (qAa (dO 1) (qAa dB (qAa dS (qAa dB (qAa dB (qAa dZ (qAa dB (qAa dZ (qAa dB (qAa dZ dNil))))))))))))))))) (qAa (dVC (dCO dZ)) dNil))
def zac_db:=(qAa (qAu .node) (qAa (qAu .str) dNil))
def zac_c:CS:=mkC zac_da zac_db (fun x y=>zac_s (⟨y.1,x.1.2.1,x.1.2.2.1,x.1.2.2.2.1,x.1.2.2.2.2.1,y.2.1,x.1.2.2.2.2.2.2.1,x.1.2.2.2.2.2.2.2.1,x.1.2.2.2.2.2.2.2.2.1,(⟨x.1.2.2.2.2.2.2.2.2.2.1,x.1.2.2.2.2.2.2.2.2.2.2.1⟩:qG6),(⟨x.1.2.2.2.2.2.2.2.2.2.2.2.1,x.1.2.2.2.2.2.2.2.2.2.2.2.2.1⟩:qG6),(⟨x.1.2.2.2.2.2.2.2.2.2.2.2.2.2.1,x.1.2.2.2.2.2.2.2.2.2.2.2.2.2.2.1⟩:qG6)⟩:qG4) x.2.1) (fun x y r=>.tup [.agg [.vB r.1.empty,.vI r.1.from_,.vI r.1.to_],.o (.vI r.2)]) fun x y r=>[.view .node y.1,.view .str y.2.1]
theorem zac_val:qAo Tryd.prog 36 zac_c:=qAn zac_chk 42 zac_Gok 2 (fun x=>Nat.le_of_ble_eq_true rfl) (fun y=>rfl) zac_subs fun x y=>by
 simp only [zac_s,-eq_self,qAe,qAh,obA,obS,slL,slR,qAd]
 kernel_rfl
def zac_w:CQ:=qCi [(0,some 0,some (.node,46)),(0,some 5,some (.str,9))] (qEl [false,false] zac_c)
theorem zac_ok:qAg Tryd.prog 36 zac_w:=qDp zac_val
def zbr_b0:IQ:=(.loop [0,1,7,8] (.seq (rg 9 [oP 9 (.bi .lss t8 t7)]) (.seq (.cond t9 .skip (.cn [] (.exit 0))) (.seq (.block 1 (.seq (rg 5 [oM 10 t8,oM 5 t10]) (.seq (rg 16 [oM 11 t1,oM 12 t0,oM 13 t5,oP 14 (.iaddr 1 t12 t13),oP 15 (.load none t14),oP 16 (.bi .eql t11 t15)]) (.cond t16 (.seq (rg 4 [oM 17 t5,oM 4 t17]) (.cn [4] .ret)) .skip)))) (rg 8 [oP 18 (.bi .add t8 (vI 1)),oM 8 t18])))))
def zbr_q:IQ:=(.seq (rg 4 [oP 4 (.mv (vI 0))]) (.seq (.seq (rg 8 [oM 6 t0,oP 7 (.len t6),oP 8 (.mv (vI 0))]) (.block 0 (.cn [0,1,7,8] (.sub 0 zbr_b0)))) (.seq (rg 4 [oP 4 (.mv (.v (.int .i64 (-1))))]) (.cn [4] .ret))))
theorem zbr_chk:chk Tryd.prog 76 []=some (zbr_q.erase,[.tmp 4],19):=by kernel_rfl
def qDk (v:BA) (x7_ x8_:Int) (s:List BA):Option (Int ⊕ (Int ⊕ Unit)) :=
 bif decide (x8_<x7_) then (
  gd (0≤x8_∧x8_<s.length) <|
  gd ((Int.toNat x8_)<s.length) <|
  bif decide (v=(s.getD (Int.toNat x8_) (ET.dft .str))) then (
   some (.inr (.inl x8_)))
  else (
   gd (qAc (x8_+(1:Int))) <|
   some (.inl (x8_+(1:Int)))))
 else (
  some (.inr (.inr ())))
def zbr_p0 (v:BA) (x7_ x8_:Int) (s:List BA):Option (Int ⊕ Unit) :=
 qBe (fun x:Int=>qDk v x7_ x s) x8_
def zbr_s (s:(List BA)) (v:BA):Option Int :=
 (zbr_p0 v (s.length:Int) (0:Int) s).bind fun o1=>(Sum.elim (fun (o1_0:Int) =>
  some o1_0) (fun (o1_1:Unit) =>
  some (-1:Int))) o1
def zbr_G:Nat→Option CQ:=tblQ []
theorem zbr_Gok:∀f C,zbr_G f=some C→qAg Tryd.prog f C:=fun f C h=>by cases h
def zbr_d0:=(dQS (qAa (dSO 0 (dO 0)) (qAa (dSO 1 dS) (qAa (dSO 7 dZ) (qAa (dSO 8 dZ) dNil)))) (qAa (qAu .str) dNil))
def zbr_l0:SubQ:=mkL zbr_d0 (fun x=>zbr_p0 x.1.2.1 x.1.2.2.1 x.1.2.2.2.1 x.2.1) fun x r R kn kx kr=>(Sum.elim (fun (r_0:Int)=>kr ⟨[sL 4 (.vI r_0)],[],[.view .str x.2.1]⟩) (fun (r_1:Unit)=>kx 0 ⟨[],[],[.view .str x.2.1]⟩)) r
def zbr_L:Nat→SubQ:=tblL [(0,zbr_l0)]
theorem zbr_sub0:qCn zbr_L zbr_G 1 9 19 0 zbr_b0:=qA5 (show zbr_L 0=zbr_l0 from by kernel_rfl) fun x R kn kx kr=>qAz (step:=fun y=>qDk x.1.2.1 x.1.2.2.1 y x.2.1) (enc:=fun (y:Int)=>zbr_d0.e ((x.1.1,x.1.2.1,x.1.2.2.1,y,x.1.2.2.2.2),x.2)) (fun y=>by kernel_rfl) (fun y ki=>by simp only [qDk,-eq_self,qAe,qAh,obA,obS,slL,slR,qAd]; kernel_rfl) x.1.2.2.2.1
theorem zbr_subs:qAp zbr_L zbr_G 1 9 19 zbr_q:=qAm (show qAq zbr_L zbr_G 1 9 19 [(0,zbr_b0)] from ⟨zbr_sub0,tV⟩)
def zbr_da:=(qAa (dVC (dCO (dO 0))) (qAa (dVC (dCO dS)) dNil))
def zbr_db:=(qAa (qAu .str) dNil)
def zbr_c:CS:=mkC zbr_da zbr_db (fun x y=>zbr_s y.1 x.2.1) (fun x y r=>.c (.o (.vI r))) fun x y r=>[.view .str y.1]
theorem zbr_val:qAo Tryd.prog 76 zbr_c:=qAn zbr_chk 9 zbr_Gok 1 (fun x=>Nat.le_of_ble_eq_true rfl) (fun y=>rfl) zbr_subs fun x y=>by
 simp only [zbr_s,-eq_self,qAe,qAh,obA,obS,slL,slR,qAd]
 kernel_rfl
def zbr_w:CQ:=qCi [(0,none,some (.str,9))] (qEl [false] zbr_c)
theorem zbr_ok:qAg Tryd.prog 76 zbr_w:=qDp zbr_val
def zbq_q:IQ:=(.seq (rg 4 [oP 4 (.mv vF)]) (.seq (rg 4 [oM 5 t0,oM 6 t1,oP 7 (.call 76 [t5,t6]),oP 8 (.bi .geq t7 (vI 0)),oM 4 t8]) (.cn [4] .ret)))
theorem zbq_chk:chk Tryd.prog 52 []=some (zbq_q.erase,[.tmp 4],9):=by kernel_rfl
def zbq_s (s:(List BA)) (v:BA):Option Bool :=
 (zbr_s s v).bind fun r1 =>
 some (decide ((0:Int)≤r1))
def zbq_G:Nat→Option CQ:=tblQ [(76,zbr_w)]
theorem zbq_Gok:∀f C,zbq_G f=some C→qAg Tryd.prog f C:=qAl ⟨zbr_ok,tV⟩
def zbq_L:Nat→SubQ:=tblL []
theorem zbq_subs:qAp zbq_L zbq_G 1 5 9 zbq_q:=qAm (show qAq zbq_L zbq_G 1 5 9 [] from tV)
def zbq_da:=(qAa (dVC (dCO (dO 0))) (qAa (dVC (dCO dS)) dNil))
def zbq_db:=(qAa (qAu .str) dNil)
def zbq_c:CS:=mkC zbq_da zbq_db (fun x y=>zbq_s y.1 x.2.1) (fun x y r=>.c (.o (.vB r))) fun x y r=>[.view .str y.1]
theorem zbq_val:qAo Tryd.prog 52 zbq_c:=qAn zbq_chk 5 zbq_Gok 1 (fun x=>Nat.le_of_ble_eq_true rfl) (fun y=>rfl) zbq_subs fun x y=>by
 simp only [zbq_s,-eq_self,qAe,qAh,obA,obS,slL,slR,qAd]
 kernel_rfl
def zbq_w:CQ:=qCi [(0,none,some (.str,9))] (qEl [false] zbq_c)
theorem zbq_ok:qAg Tryd.prog 52 zbq_w:=qDp zbq_val
def zaa_b0:IQ:=(.loop [2,3,8,9,10] (.seq (rg 11 [oP 11 (.bi .lss t10 t9)]) (.seq (.cond t11 .skip (.cn [2,3] (.exit 0))) (.seq (.block 1 (.seq (rg 6 [oP 12 (.iaddr 1 t8 t10),oP 13 (.load none t12),oM 6 t13]) (.seq (rg 18 [oP 14 (.faddr 0 t2),oP 15 (.load none t14),oM 16 t6,oP 17 (.call 21 [t15,(vI 0),t16]),oP 18 (.bi .lss t17 (vI 0))]) (.cond t18 (.seq (rg 4 [oP 4 (.mv (vI 137))]) (.cn [4] .ret)) .skip)))) (rg 10 [oP 19 (.bi .add t10 (vI 1)),oM 10 t19])))))
def zaa_q:IQ:=(.seq (rg 4 [oP 2 (.box 51 15 t0),oP 3 (.box 31 9 t1),oP 4 (.mv (vI 0))]) (.seq (.seq (rg 10 [oP 7 (.faddr 8 t3),oP 8 (.load none t7),oP 9 (.len t8),oP 10 (.mv (vI 0))]) (.block 0 (.cn [2,3,8,9,10] (.sub 0 zaa_b0)))) (.seq (.block 2 (.seq (rg 20 [oP 21 (.faddr 2 t3),oP 22 (.load none t21),oM 23 t22,oF 24 (.faddr 2 t2) 23,oF 25 (.load none t24) 23,oF 26 (.mv t25) 23,oF 27 (.faddr 1 t2) 26,oF 28 (.load none t27) 26,oF 29 (.faddr 1 t3) 26,oF 30 (.load none t29) 26,oF 31 (.bi .eql t28 t30) 26,oF 32 (.pick t26 t31 vF) 23,oF 33 (.un .not t32) 23,oP 34 (.pick t23 t33 vF),oM 20 t34]) (.cond t20 (.seq (rg 4 [oP 4 (.mv (vI 132))]) (.cn [4] .ret)) (.seq (.seq (rg 35 [oP 36 (.faddr 4 t3),oP 37 (.load none t36),oM 38 t37,oF 39 (.faddr 6 t2) 38,oF 40 (.load none t39) 38,oF 41 (.mv t40) 38,oF 42 (.faddr 5 t2) 41,oF 43 (.load none t42) 41,oF 44 (.faddr 3 t3) 41,oF 45 (.load none t44) 41,oF 46 (.call 52 [t43,t45]) 41,oF 47 (.pick t41 t46 vF) 38,oF 48 (.un .not t47) 38,oP 49 (.pick t38 t48 vF),oM 35 t49]) (.cond t35 .skip (rg 35 [oP 50 (.faddr 4 t3),oP 51 (.load none t50),oP 52 (.un .not t51),oM 53 t52,oF 54 (.faddr 6 t2) 53,oF 55 (.load none t54) 53,oP 56 (.pick t53 t55 vF),oM 35 t56]))) (.cond t35 (.seq (rg 4 [oP 4 (.mv (vI 133))]) (.cn [4] .ret)) .skip))))) (.seq (rg 4 [oP 4 (.mv (vI 0))]) (.cn [4] .ret)))))
theorem zaa_chk:chk Tryd.prog 34 []=some (zaa_q.erase,[.tmp 4],57):=by kernel_rfl
def qEg (x9_ x10_:Int) (c_value:List Eng.Node) (x8_:List BA):Option (Int ⊕ (Int ⊕ Unit)) :=
 bif decide (x10_<x9_) then (
  gd (0≤x10_∧x10_<x8_.length) <|
  gd ((Int.toNat x10_)<x8_.length) <|
  (zao_s c_value (0:Int) (x8_.getD (Int.toNat x10_) (ET.dft .str))).bind fun r2 =>
  bif decide (r2<(0:Int)) then (
   some (.inr (.inl (137:Int))))
  else (
   gd (qAc (x10_+(1:Int))) <|
   some (.inl (x10_+(1:Int)))))
 else (
  some (.inr (.inr ())))
def zaa_p0 (x9_ x10_:Int) (c_value:List Eng.Node) (x8_:List BA):Option (Int ⊕ Unit) :=
 qBe (fun x:Int=>qEg x9_ x c_value x8_) x10_
def zaa_s (c:qG4) (p:qHq):Option Int :=
 (zaa_p0 (p.need.length:Int) (0:Int) c.value p.need).bind fun o3=>(Sum.elim (fun (o3_0:Int) =>
  some o3_0) (fun (o3_1:Unit) =>
  bif (p.hasIss && (!(c.hasIss && (decide (c.iss=p.iss))))) then (
   some (132:Int))
  else (
   bif p.hasAud then (
    bif c.hasAud then (
     (zbq_s c.aud p.aud).bind fun r4 =>
     bif (!r4) then (
      bif (!r4) then (
       some (133:Int))
      else (
       some (0:Int)))
     else (
      bif ((!p.hasAud) && c.hasAud) then (
       some (133:Int))
      else (
       some (0:Int))))
    else (
     some (133:Int)))
   else (
    bif ((!p.hasAud) && c.hasAud) then (
     some (133:Int))
    else (
     some (0:Int)))))) o3
def zaa_G:Nat→Option CQ:=tblQ [(21,zao_w),(52,zbq_w)]
theorem zaa_Gok:∀f C,zaa_G f=some C→qAg Tryd.prog f C:=qAl ⟨zao_ok,zbq_ok,tV⟩
def zaa_d0:=(dQS (qAa (dSO 2 (dH 4 0)) (qAa (dSO 3 (dH 5 0)) (qAa (dSO 8 (dO 3)) (qAa (dSO 9 dZ) (qAa (dSO 10 dZ) dNil))))) (qAa (qAu .node) (qAa (qAu .str) (qAa (qAu .str) (qAa (qAu .str) (qAa (qAs 51 (qAa (dO 0) (qAa dS (qAa dB (qAa dS (qAa dB (qAa (dO 1) (qAa dB (qAa dS (qAa dB (qAa dB (qAa dZ (qAa dB (qAa dZ (qAa dB (qAa dZ dNil)))))))))))))))) (qAa (qAs 31 (qAa (dO 2) (qAa dS (qAa dB (qAa dS (qAa dB (qAa dS (qAa dB (qAa dZ (qAa (dO 3) dNil)))))))))) dNil)))))))
def zaa_l0:SubQ:=mkL zaa_d0 (fun x=>zaa_p0 x.1.2.2.2.1 x.1.2.2.2.2.1 x.2.1 x.2.2.2.2.1) fun x r R kn kx kr=>(Sum.elim (fun (r_0:Int)=>kr ⟨[sL 4 (.vI r_0)],[],[.view .node x.2.1,.view .str x.2.2.1,.view .str x.2.2.2.1,.view .str x.2.2.2.2.1]⟩) (fun (r_1:Unit)=>kx 0 ⟨[sL 2 (.hd 4 0),sL 3 (.hd 5 0)],[],[.view .node x.2.1,.view .str x.2.2.1,.view .str x.2.2.2.1,.view .str x.2.2.2.2.1,.cells 51 [.own 0,.vS x.2.2.2.2.2.1.2.1,.vB x.2.2.2.2.2.1.2.2.1,.vS x.2.2.2.2.2.1.2.2.2.1,.vB x.2.2.2.2.2.1.2.2.2.2.1,.own 1,.vB x.2.2.2.2.2.1.2.2.2.2.2.2.1,.vS x.2.2.2.2.2.1.2.2.2.2.2.2.2.1,.vB x.2.2.2.2.2.1.2.2.2.2.2.2.2.2.1,.vB x.2.2.2.2.2.1.2.2.2.2.2.2.2.2.2.1,.vI x.2.2.2.2.2.1.2.2.2.2.2.2.2.2.2.2.1,.vB x.2.2.2.2.2.1.2.2.2.2.2.2.2.2.2.2.2.1,.vI x.2.2.2.2.2.1.2.2.2.2.2.2.2.2.2.2.2.2.1,.vB x.2.2.2.2.2.1.2.2.2.2.2.2.2.2.2.2.2.2.2.1,.vI x.2.2.2.2.2.1.2.2.2.2.2.2.2.2.2.2.2.2.2.2.1],.cells 31 [.own 2,.vS x.2.2.2.2.2.2.1.2.1,.vB x.2.2.2.2.2.2.1.2.2.1,.vS x.2.2.2.2.2.2.1.2.2.2.1,.vB x.2.2.2.2.2.2.1.2.2.2.2.1,.vS x.2.2.2.2.2.2.1.2.2.2.2.2.1,.vB x.2.2.2.2.2.2.1.2.2.2.2.2.2.1,.vI x.2.2.2.2.2.2.1.2.2.2.2.2.2.2.1,.own 3]]⟩)) r
def zaa_L:Nat→SubQ:=tblL [(0,zaa_l0)]
theorem zaa_sub0:qCn zaa_L zaa_G 4 11 57 0 zaa_b0:=qA5 (show zaa_L 0=zaa_l0 from by kernel_rfl) fun x R kn kx kr=>qAz (step:=fun y=>qEg x.1.2.2.2.1 y x.2.1 x.2.2.2.2.1) (enc:=fun (y:Int)=>zaa_d0.e ((x.1.1,x.1.2.1,x.1.2.2.1,x.1.2.2.2.1,y,x.1.2.2.2.2.2),x.2)) (fun y=>by kernel_rfl) (fun y ki=>by simp only [qEg,-eq_self,qAe,qAh,obA,obS,slL,slR,qAd]; kernel_rfl) x.1.2.2.2.2.1
theorem zaa_subs:qAp zaa_L zaa_G 4 11 57 zaa_q:=qAm (show qAq zaa_L zaa_G 4 11 57 [(0,zaa_b0)] from ⟨zaa_sub0,tV⟩)
def zaa_da:=(qAa (dVC (dCA (qAa (dO 0) (qAa dS (qAa dB (qAa dS (qAa dB (qAa (dO 1) (qAa dB (qAa dS (qAa dB (qAa dB (qAa dZ (qAa dB (qAa dZ (qAa dB (qAa dZ dNil))))))))))))))))) (qAa (dVC (dCA (qAa (dO 2) (qAa dS (qAa dB (qAa dS (qAa dB (qAa dS (qAa dB (qAa dZ (qAa (dO 3) dNil))))))))))) dNil))
def zaa_db:=(qAa (qAu .node) (qAa (qAu .str) (qAa (qAu .str) (qAa (qAu .str) dNil))))
def zaa_c:CS:=mkC zaa_da zaa_db (fun x y=>zaa_s (⟨y.1,x.1.2.1,x.1.2.2.1,x.1.2.2.2.1,x.1.2.2.2.2.1,y.2.1,x.1.2.2.2.2.2.2.1,x.1.2.2.2.2.2.2.2.1,x.1.2.2.2.2.2.2.2.2.1,(⟨x.1.2.2.2.2.2.2.2.2.2.1,x.1.2.2.2.2.2.2.2.2.2.2.1⟩:qG6),(⟨x.1.2.2.2.2.2.2.2.2.2.2.2.1,x.1.2.2.2.2.2.2.2.2.2.2.2.2.1⟩:qG6),(⟨x.1.2.2.2.2.2.2.2.2.2.2.2.2.2.1,x.1.2.2.2.2.2.2.2.2.2.2.2.2.2.2.1⟩:qG6)⟩:qG4) (⟨y.2.2.1,x.2.1.2.1,x.2.1.2.2.1,x.2.1.2.2.2.1,x.2.1.2.2.2.2.1,x.2.1.2.2.2.2.2.1,x.2.1.2.2.2.2.2.2.1,x.2.1.2.2.2.2.2.2.2.1,y.2.2.2.1⟩:qHq)) (fun x y r=>.c (.o (.vI r))) fun x y r=>[.view .node y.1,.view .str y.2.1,.view .str y.2.2.1,.view .str y.2.2.2.1]
theorem zaa_val:qAo Tryd.prog 34 zaa_c:=qAn zaa_chk 11 zaa_Gok 4 (fun x=>Nat.le_of_ble_eq_true rfl) (fun y=>rfl) zaa_subs fun x y=>by
 simp only [zaa_s,-eq_self,qAe,qAh,obA,obS,slL,slR,qAd]
 kernel_rfl
def zaa_w:CQ:=qCi [(0,some 0,some (.node,46)),(0,some 5,some (.str,9)),(1,some 0,some (.str,9)),(1,some 8,some (.str,9))] (qEl [false,false,false,false] zaa_c)
theorem zaa_ok:qAg Tryd.prog 34 zaa_w:=qDp zaa_val
def zab_q:IQ:=(.seq (rg 6 [oP 3 (.box 51 15 t0),oP 6 (.mv (vI 0))]) (.seq (.block 0 (.seq (rg 7 [oM 8 t1,oP 9 (.bi .lss t8 (vI 0)),oM 10 t9,oE 11 (.mv t1) 10,oE 12 (.bi .gtr t11 (vI 600)) 10,oP 13 (.pick t10 vT t12),oM 7 t13]) (.cond t7 (.seq (rg 6 [oP 6 (.mv (vI 12))]) (.cn [6] .ret)) (.seq (.reg 14 (some [0,1,2,3,4,5,6,8,9,10,7,11,12,13,14,15,16,17,18,19,20,21,22,23,24,25,26]) [oP 15 (.faddr 9 t3),oP 16 (.faddr 0 t15),oP 17 (.load none t16),oM 18 t17,oF 19 (.mv t2) 18,oF 20 (.mv t1) 18,oF 21 (.un .neg t20) 18,oF 23 (.faddr 9 t3) 18,oF 24 (.faddr 1 t23) 18,oF 25 (.load none t24) 18,oF 22 (.call 62 [t19,t21]) 18,oF 26 (.bi .geq t22 t25) 18,oP 27 (.pick t18 t26 vF),oM 28 t27,oF 29 (.mv t2) 28,oF 30 (.mv t1) 28,oF 31 (.bi .add (.v (.int .i64 (-9223372036854775808))) t30) 28,oF 32 (.bi .lss t29 t31) 28,oF 33 (.mv t32) 28,oF 34 (.faddr 9 t3) 33,oF 35 (.faddr 1 t34) 33,oF 36 (.load none t35) 33,oF 37 (.bi .eql t36 (.v (.int .i64 (-9223372036854775808)))) 33,oF 38 (.pick t33 t37 vF) 28,oF 39 (.un .not t38) 28,oP 40 (.pick t28 t39 vF),oM 14 t40]) (.cond t14 (.seq (rg 6 [oP 6 (.mv (vI 134))]) (.cn [6] .ret)) (.seq (rg 41 [oP 42 (.faddr 11 t3),oP 43 (.faddr 0 t42),oP 44 (.load none t43),oM 45 t44,oF 46 (.mv t2) 45,oF 47 (.faddr 11 t3) 45,oF 48 (.faddr 1 t47) 45,oF 49 (.load none t48) 45,oF 50 (.mv t1) 45,oF 51 (.un .neg t50) 45,oF 52 (.call 62 [t49,t51]) 45,oF 53 (.bi .lss t46 t52) 45,oP 54 (.pick t45 t53 vF),oM 41 t54]) (.cond t41 (.seq (rg 6 [oP 6 (.mv (vI 135))]) (.cn [6] .ret)) (.seq (rg 55 [oP 56 (.faddr 13 t3),oP 57 (.faddr 0 t56),oP 58 (.load none t57),oM 59 t58,oF 60 (.mv t2) 59,oF 61 (.faddr 13 t3) 59,oF 62 (.faddr 1 t61) 59,oF 63 (.load none t62) 59,oF 64 (.mv t1) 59,oF 65 (.un .neg t64) 59,oF 66 (.call 62 [t63,t65]) 59,oF 67 (.bi .lss t60 t66) 59,oP 68 (.pick t59 t67 vF),oM 55 t68]) (.cond t55 (.seq (rg 6 [oP 6 (.mv (vI 136))]) (.cn [6] .ret)) .skip))))))))) (.seq (rg 6 [oP 6 (.mv (vI 0))]) (.cn [6] .ret))))
theorem zab_chk:chk Tryd.prog 35 []=some (zab_q.erase,[.tmp 6],69):=by kernel_rfl
def qBy (c:qG4) (leeway now:Int):Option Int :=
 bif ((decide (leeway<(0:Int))) || (decide ((600:Int)<leeway))) then (
  some (12:Int))
 else (
  gd (c.exp_.has=true→qAc (0 - leeway)) <|
  (zaf_s now (0 - leeway)).bind fun r1 =>
  gd ((c.exp_.has && (decide (c.exp_.at_≤r1)))=true→qAc ((-9223372036854775808:Int)+leeway)) <|
  bif ((c.exp_.has && (decide (c.exp_.at_≤r1))) && (!((decide (now<((-9223372036854775808:Int)+leeway))) && (decide (c.exp_.at_=(-9223372036854775808:Int)))))) then (
   some (134:Int))
  else (
   gd (c.nbf.has=true→qAc (0 - leeway)) <|
   bif c.nbf.has then (
    (zaf_s c.nbf.at_ (0 - leeway)).bind fun r2 =>
    bif decide (now<r2) then (
     some (135:Int))
    else (
     gd (c.iat.has=true→qAc (0 - leeway)) <|
     bif c.iat.has then (
      (zaf_s c.iat.at_ (0 - leeway)).bind fun r3 =>
      bif decide (now<r3) then (
       some (136:Int))
      else (
       some (0:Int)))
     else (
      some (0:Int))))
   else (
    gd (c.iat.has=true→qAc (0 - leeway)) <|
    bif c.iat.has then (
     (zaf_s c.iat.at_ (0 - leeway)).bind fun r4 =>
     bif decide (now<r4) then (
      some (136:Int))
     else (
      some (0:Int)))
    else (
     some (0:Int)))))
def zab_G:Nat→Option CQ:=tblQ [(62,zaf_w)]
theorem zab_Gok:∀f C,zab_G f=some C→qAg Tryd.prog f C:=qAl ⟨zaf_ok,tV⟩
def zab_L:Nat→SubQ:=tblL []
theorem zab_subs:qAp zab_L zab_G 2 7 69 zab_q:=qAm (show qAq zab_L zab_G 2 7 69 [] from tV)
def zab_da:=(qAa (dVC (dCA (qAa (dO 0) (qAa dS (qAa dB (qAa dS (qAa dB (qAa (dO 1) (qAa dB (qAa dS (qAa dB (qAa dB (qAa dZ (qAa dB (qAa dZ (qAa dB (qAa dZ dNil))))))))))))))))) (qAa (dVC (dCO dZ)) (qAa (dVC (dCO dZ)) dNil)))
def zab_db:=(qAa (qAu .node) (qAa (qAu .str) dNil))
def zab_c:CS:=mkC zab_da zab_db (fun x y=>qBy (⟨y.1,x.1.2.1,x.1.2.2.1,x.1.2.2.2.1,x.1.2.2.2.2.1,y.2.1,x.1.2.2.2.2.2.2.1,x.1.2.2.2.2.2.2.2.1,x.1.2.2.2.2.2.2.2.2.1,(⟨x.1.2.2.2.2.2.2.2.2.2.1,x.1.2.2.2.2.2.2.2.2.2.2.1⟩:qG6),(⟨x.1.2.2.2.2.2.2.2.2.2.2.2.1,x.1.2.2.2.2.2.2.2.2.2.2.2.2.1⟩:qG6),(⟨x.1.2.2.2.2.2.2.2.2.2.2.2.2.2.1,x.1.2.2.2.2.2.2.2.2.2.2.2.2.2.2.1⟩:qG6)⟩:qG4) x.2.1 x.2.2.1) (fun x y r=>.c (.o (.vI r))) fun x y r=>[.view .node y.1,.view .str y.2.1]
theorem zab_val:qAo Tryd.prog 35 zab_c:=qAn zab_chk 7 zab_Gok 2 (fun x=>Nat.le_of_ble_eq_true rfl) (fun y=>rfl) zab_subs fun x y=>by
 simp only [qBy,-eq_self,qAe,qAh,obA,obS,slL,slR,qAd]
 kernel_rfl
def zab_w:CQ:=qCi [(0,some 0,some (.node,46)),(0,some 5,some (.str,9))] (qEl [false,false] zab_c)
theorem zab_ok:qAg Tryd.prog 35 zab_w:=qDp zab_val
def zbm_q:IQ:=(.seq (rg 0 [oP 0 (.mv vF)]) (.seq (rg 2 [oP 7 (.call 23 [(.v (.string ⟨#[123,34,105,115,115,34,58,34,97,34,44,34,97,117,100,34,58,91,34,120,34,44,34,121,34,93,44,34,101,120,112,34,58,49,48,44,34,110,34,58,49,125]⟩))]),oM 6 t7,oP 8 (.extract t6 0),oP 9 (.extract t6 1),oP 1 (.alloc 51 [.slice none 0 0,.string ⟨#[]⟩,.bool false,.string ⟨#[]⟩,.bool false,.slice none 0 0,.bool false,.string ⟨#[]⟩,.bool false,.bool false,.int .i64 0,.bool false,.int .i64 0,.bool false,.int .i64 0]),oN (.store 15 t1 t8),oM 2 t9]) (.seq (rg 4 [oP 11 (.load (some 15) t1),oP 12 (.call 36 [t11,(vI 5)]),oM 10 t12,oP 13 (.extract t10 0),oP 14 (.extract t10 1),oP 3 (.alloc 68 [.bool false,.int .i64 0,.int .i64 0]),oN (.store 3 t3 t13),oM 4 t14]) (.seq (rg 0 [oP 15 (.bslice 9 1 1 [.string ⟨#[]⟩] [(0,(.v (.string ⟨#[110]⟩)))]),oP 16 (.build [.slice none 0 0,.string ⟨#[]⟩,.bool false,.string ⟨#[]⟩,.bool false,.string ⟨#[]⟩,.bool false,.int .i64 0,.slice none 0 0] [(1,1,(.v (.string ⟨#[97]⟩))),(2,1,vT),(3,1,(.v (.string ⟨#[121]⟩))),(4,1,vT),(8,1,t15)]),oP 5 (.alloc 31 [.slice none 0 0,.string ⟨#[]⟩,.bool false,.string ⟨#[]⟩,.bool false,.string ⟨#[]⟩,.bool false,.int .i64 0,.slice none 0 0]),oN (.store 9 t5 t16)]) (.seq (.seq (rg 43 [oM 17 t2,oP 18 (.bi .neq t17 (vI 0)),oM 19 t18,oE 20 (.mv t4) 19,oE 21 (.bi .neq t20 (vI 0)) 19,oP 22 (.pick t19 vT t21),oM 23 t22,oE 24 (.faddr 5 t1) 23,oE 25 (.load none t24) 23,oE 26 (.len t25) 23,oE 27 (.bi .neq t26 (vI 2)) 23,oP 28 (.pick t23 vT t27),oM 29 t28,oE 30 (.faddr 9 t1) 29,oE 31 (.faddr 0 t30) 29,oE 32 (.load none t31) 29,oE 33 (.un .not t32) 29,oP 34 (.pick t29 vT t33),oM 35 t34,oE 36 (.faddr 0 t3) 35,oE 37 (.load none t36) 35,oP 38 (.pick t35 vT t37),oM 39 t38,oE 40 (.faddr 2 t3) 39,oE 41 (.load none t40) 39,oE 42 (.bi .neq t41 (vI 14)) 39,oP 43 (.pick t39 vT t42)]) (.cond t43 (.seq (rg 0 [oP 0 (.mv vF)]) (.cn [0] .ret)) .skip)) (.seq (rg 0 [oP 44 (.load (some 15) t1),oP 45 (.load (some 9) t5),oP 46 (.call 34 [t44,t45]),oP 47 (.bi .eql t46 (vI 0)),oM 48 t47,oF 49 (.load (some 15) t1) 48,oF 50 (.build [.slice none 0 0,.string ⟨#[]⟩,.bool false,.string ⟨#[]⟩,.bool false,.string ⟨#[]⟩,.bool false,.int .i64 0,.slice none 0 0] []) 48,oF 51 (.call 34 [t49,t50]) 48,oF 52 (.bi .eql t51 (vI 133)) 48,oP 53 (.pick t48 t52 vF),oM 54 t53,oF 55 (.load (some 15) t1) 54,oF 56 (.call 35 [t55,(vI 5),(vI 14)]) 54,oF 57 (.bi .eql t56 (vI 0)) 54,oP 58 (.pick t54 t57 vF),oM 59 t58,oF 60 (.load (some 15) t1) 59,oF 61 (.call 35 [t60,(vI 5),(vI 15)]) 59,oF 62 (.bi .eql t61 (vI 134)) 59,oP 63 (.pick t59 t62 vF),oM 0 t63]) (.cn [0] .ret)))))))
theorem zbm_chk:chk Tryd.prog 26 []=some (zbm_q.erase,[.tmp 0],64):=by kernel_rfl
def zbm_s:Option Bool :=
 (zad_s (⟨#[123,34,105,115,115,34,58,34,97,34,44,34,97,117,100,34,58,91,34,120,34,44,34,121,34,93,44,34,101,120,112,34,58,49,48,44,34,110,34,58,49,125]⟩:BA)).bind fun r1 =>
 (zac_s r1.1 (5:Int)).bind fun r2 =>
 bif ((((((!decide (r1.2=(0:Int))) || (!decide (r2.2=(0:Int)))) || (!decide ((r1.1.aud.length:Int)=(2:Int)))) || (!r1.1.exp_.has)) || r2.1.empty) || (!decide (r2.1.to_=(14:Int)))) then (
  some false)
 else (
  (zaa_s r1.1 (⟨[],(⟨#[97]⟩:BA),true,(⟨#[121]⟩:BA),true,(⟨#[]⟩:BA),false,(0:Int),[(⟨#[110]⟩:BA)]⟩:qHq)).bind fun r3 =>
  bif decide (r3=(0:Int)) then (
   (zaa_s r1.1 (⟨[],(⟨#[]⟩:BA),false,(⟨#[]⟩:BA),false,(⟨#[]⟩:BA),false,(0:Int),[]⟩:qHq)).bind fun r4 =>
   bif decide (r4=(133:Int)) then (
    (qBy r1.1 (5:Int) (14:Int)).bind fun r5 =>
    bif decide (r5=(0:Int)) then (
     (qBy r1.1 (5:Int) (15:Int)).bind fun r6 =>
     some (decide (r6=(134:Int))))
    else (
     some false))
   else (
    some false))
  else (
   some false))
def zbm_G:Nat→Option CQ:=tblQ [(23,zad_w),(36,zac_w),(34,zaa_w),(35,zab_w)]
theorem zbm_Gok:∀f C,zbm_G f=some C→qAg Tryd.prog f C:=qAl ⟨zad_ok,zac_ok,zaa_ok,zab_ok,tV⟩
def zbm_L:Nat→SubQ:=tblL []
theorem zbm_subs:qAp zbm_L zbm_G 0 6 64 zbm_q:=qAm (show qAq zbm_L zbm_G 0 6 64 [] from tV)
def zbm_da:=(dNil:Dec Unit (List SV))
def zbm_db:=(dNil:Dec Unit (List SB))
def zbm_c:CS:=mkC zbm_da zbm_db (fun x y=>zbm_s) (fun x y r=>.c (.o (.vB r))) fun x y r=>[]
theorem zbm_val:qAo Tryd.prog 26 zbm_c:=qAn zbm_chk 6 zbm_Gok 0 (fun x=>Nat.le_of_ble_eq_true rfl) (fun y=>rfl) zbm_subs fun x y=>by
 simp only [zbm_s,-eq_self,qAe,qAh,obA,obS,slL,slR,qAd]
 kernel_rfl
def zbm_w:CQ:=qEl [] zbm_c
theorem zbm_ok:qAg Tryd.prog 26 zbm_w:=qA2 zbm_val
def zbn_q:IQ:=(.seq (rg 4 [oP 4 (.alloc 106 [.int .i64 0,.int .i64 0])]) (.seq (rg 5 [oM 7 t0,oP 8 (.bi .shr t7 (.v (.int .u64 32))),oM 5 t8]) (.seq (rg 6 [oM 9 t0,oP 10 (.bi .and t9 (vI 4294967295)),oM 11 t1,oP 12 (.bi .add t10 t11),oM 6 t12]) (.seq (rg 0 [oM 13 t5,oM 14 t6,oP 15 (.bi .shr t14 (.v (.int .u64 32))),oP 16 (.bi .add t13 t15),oM 17 t6,oP 18 (.bi .and t17 (vI 4294967295)),oP 19 (.build [.int .i64 0,.int .i64 0] [(0,1,t16),(1,1,t18)]),oN (.store 2 t4 t19)]) (.cn [4] .ret)))))
theorem zbn_chk:chk Tryd.prog 64 []=some (zbn_q.erase,[.cell 4 (some 2)],20):=by kernel_rfl
def zbn_s (a more:Int):Option qHg :=
 gd (0≤(32:Int)) <|
 gd (qAc ((qB5 .i64 a (4294967295:Int))+more)) <|
 gd (0≤(32:Int)) <|
 gd (qAc ((a / 4294967296)+(((qB5 .i64 a (4294967295:Int))+more) / 4294967296))) <|
 some (⟨((a / 4294967296)+(((qB5 .i64 a (4294967295:Int))+more) / 4294967296)),(qB5 .i64 ((qB5 .i64 a (4294967295:Int))+more) (4294967295:Int))⟩:qHg)
def zbn_G:Nat→Option CQ:=tblQ []
theorem zbn_Gok:∀f C,zbn_G f=some C→qAg Tryd.prog f C:=fun f C h=>by cases h
def zbn_L:Nat→SubQ:=tblL []
theorem zbn_subs:qAp zbn_L zbn_G 0 7 20 zbn_q:=qAm (show qAq zbn_L zbn_G 0 7 20 [] from tV)
def zbn_da:=(qAa (dVC (dCO dZ)) (qAa (dVC (dCO dZ)) dNil))
def zbn_db:=(dNil:Dec Unit (List SB))
def zbn_c:CS:=mkC zbn_da zbn_db (fun x y=>zbn_s x.1 x.2.1) (fun x y r=>.c (.agg [.vI r.high,.vI r.low])) fun x y r=>[]
theorem zbn_val:qAo Tryd.prog 64 zbn_c:=qAn zbn_chk 7 zbn_Gok 0 (fun x=>Nat.le_of_ble_eq_true rfl) (fun y=>rfl) zbn_subs fun x y=>by
 simp only [zbn_s,-eq_self,qAe,qAh,obA,obS,slL,slR,qAd]
 kernel_rfl
def zbn_w:CQ:=qEl [] zbn_c
theorem zbn_ok:qAg Tryd.prog 64 zbn_w:=qA2 zbn_val
def zbo_q:IQ:=(.seq (rg 4 [oP 2 (.box 106 2 t0),oP 3 (.box 106 2 t1),oP 4 (.mv vF)]) (.seq (rg 4 [oP 5 (.faddr 0 t2),oP 6 (.load none t5),oP 7 (.faddr 0 t3),oP 8 (.load none t7),oP 9 (.bi .lss t6 t8),oM 10 t9,oE 11 (.faddr 0 t2) 10,oE 12 (.load none t11) 10,oE 13 (.faddr 0 t3) 10,oE 14 (.load none t13) 10,oE 15 (.bi .eql t12 t14) 10,oE 16 (.mv t15) 10,oF 17 (.faddr 1 t2) 16,oF 18 (.load none t17) 16,oF 19 (.faddr 1 t3) 16,oF 20 (.load none t19) 16,oF 21 (.bi .lss t18 t20) 16,oE 22 (.pick t16 t21 vF) 10,oP 23 (.pick t10 vT t22),oM 4 t23]) (.cn [4] .ret)))
theorem zbo_chk:chk Tryd.prog 63 []=some (zbo_q.erase,[.tmp 4],24):=by kernel_rfl
def zbo_s (a b:qHg):Option Bool :=
 some ((decide (a.high<b.high)) || ((decide (a.high=b.high)) && (decide (a.low<b.low))))
def zbo_G:Nat→Option CQ:=tblQ []
theorem zbo_Gok:∀f C,zbo_G f=some C→qAg Tryd.prog f C:=fun f C h=>by cases h
def zbo_L:Nat→SubQ:=tblL []
theorem zbo_subs:qAp zbo_L zbo_G 0 5 24 zbo_q:=qAm (show qAq zbo_L zbo_G 0 5 24 [] from tV)
def zbo_da:=(qAa (dVC (dCA (qAa dZ (qAa dZ dNil)))) (qAa (dVC (dCA (qAa dZ (qAa dZ dNil)))) dNil))
def zbo_db:=(dNil:Dec Unit (List SB))
def zbo_c:CS:=mkC zbo_da zbo_db (fun x y=>zbo_s (⟨x.1.1,x.1.2.1⟩:qHg) (⟨x.2.1.1,x.2.1.2.1⟩:qHg)) (fun x y r=>.c (.o (.vB r))) fun x y r=>[]
theorem zbo_val:qAo Tryd.prog 63 zbo_c:=qAn zbo_chk 5 zbo_Gok 0 (fun x=>Nat.le_of_ble_eq_true rfl) (fun y=>rfl) zbo_subs fun x y=>by
 simp only [zbo_s,-eq_self,qAe,qAh,obA,obS,slL,slR,qAd]
 kernel_rfl
def zbo_w:CQ:=qEl [] zbo_c
theorem zbo_ok:qAg Tryd.prog 63 zbo_w:=qA2 zbo_val
def zbp_q:IQ:=(.seq (rg 6 [oP 3 (.box 51 15 t0),oP 6 (.mv (vI 0))]) (.seq (.seq (.reg 21 (some [0,1,2,3,4,5,6,8,9,10,7,11,12,13,14]) [oP 7 (.faddr 9 t3),oP 8 (.faddr 0 t7),oP 9 (.load none t8),oM 10 t9,oF 11 (.mv t2) 10,oF 12 (.mv t1) 10,oF 13 (.un .neg t12) 10,oF 15 (.faddr 9 t3) 10,oF 16 (.faddr 1 t15) 10,oF 17 (.load none t16) 10,oF 14 (.call 64 [t11,t13]) 10,oF 18 (.call 64 [t17,(vI 0)]) 10,oF 19 (.call 63 [t14,t18]) 10,oF 20 (.un .not t19) 10,oP 21 (.pick t10 t20 vF)]) (.cond t21 (.seq (rg 6 [oP 6 (.mv (vI 134))]) (.cn [6] .ret)) .skip)) (.seq (.seq (.reg 34 (some [0,1,2,3,4,5,7,8,9,6,10,11,12]) [oP 22 (.faddr 11 t3),oP 23 (.faddr 0 t22),oP 24 (.load none t23),oM 25 t24,oF 26 (.mv t2) 25,oF 27 (.mv t1) 25,oF 29 (.faddr 11 t3) 25,oF 30 (.faddr 1 t29) 25,oF 31 (.load none t30) 25,oF 28 (.call 64 [t26,t27]) 25,oF 32 (.call 64 [t31,(vI 0)]) 25,oF 33 (.call 63 [t28,t32]) 25,oP 34 (.pick t25 t33 vF)]) (.cond t34 (.seq (rg 6 [oP 6 (.mv (vI 135))]) (.cn [6] .ret)) .skip)) (.seq (.seq (.reg 47 (some [0,1,2,3,4,5,7,8,9,6,10,11,12]) [oP 35 (.faddr 13 t3),oP 36 (.faddr 0 t35),oP 37 (.load none t36),oM 38 t37,oF 39 (.mv t2) 38,oF 40 (.mv t1) 38,oF 42 (.faddr 13 t3) 38,oF 43 (.faddr 1 t42) 38,oF 44 (.load none t43) 38,oF 41 (.call 64 [t39,t40]) 38,oF 45 (.call 64 [t44,(vI 0)]) 38,oF 46 (.call 63 [t41,t45]) 38,oP 47 (.pick t38 t46 vF)]) (.cond t47 (.seq (rg 6 [oP 6 (.mv (vI 136))]) (.cn [6] .ret)) .skip)) (.seq (rg 6 [oP 6 (.mv (vI 0))]) (.cn [6] .ret))))))
theorem zbp_chk:chk Tryd.prog 37 []=some (zbp_q.erase,[.tmp 6],48):=by kernel_rfl
def zbp_s (c:qG4) (leeway now:Int):Option Int :=
 gd (c.exp_.has=true→qAc (0 - leeway)) <|
 (zbn_s now (0 - leeway)).bind fun r1 =>
 (zbn_s c.exp_.at_ (0:Int)).bind fun r2 =>
 (zbo_s r1 r2).bind fun r3 =>
 bif (c.exp_.has && (!r3)) then (
  some (134:Int))
 else (
  (zbn_s now leeway).bind fun r4 =>
  (zbn_s c.nbf.at_ (0:Int)).bind fun r5 =>
  (zbo_s r4 r5).bind fun r6 =>
  bif (c.nbf.has && r6) then (
   some (135:Int))
  else (
   (zbn_s now leeway).bind fun r7 =>
   (zbn_s c.iat.at_ (0:Int)).bind fun r8 =>
   (zbo_s r7 r8).bind fun r9 =>
   bif (c.iat.has && r9) then (
    some (136:Int))
   else (
    some (0:Int))))
def zbp_G:Nat→Option CQ:=tblQ [(64,zbn_w),(63,zbo_w)]
theorem zbp_Gok:∀f C,zbp_G f=some C→qAg Tryd.prog f C:=qAl ⟨zbn_ok,zbo_ok,tV⟩
def zbp_L:Nat→SubQ:=tblL []
theorem zbp_subs:qAp zbp_L zbp_G 2 7 48 zbp_q:=qAm (show qAq zbp_L zbp_G 2 7 48 [] from tV)
def zbp_da:=(qAa (dVC (dCA (qAa (dO 0) (qAa dS (qAa dB (qAa dS (qAa dB (qAa (dO 1) (qAa dB (qAa dS (qAa dB (qAa dB (qAa dZ (qAa dB (qAa dZ (qAa dB (qAa dZ dNil))))))))))))))))) (qAa (dVC (dCO dZ)) (qAa (dVC (dCO dZ)) dNil)))
def zbp_db:=(qAa (qAu .node) (qAa (qAu .str) dNil))
def zbp_c:CS:=mkC zbp_da zbp_db (fun x y=>zbp_s (⟨y.1,x.1.2.1,x.1.2.2.1,x.1.2.2.2.1,x.1.2.2.2.2.1,y.2.1,x.1.2.2.2.2.2.2.1,x.1.2.2.2.2.2.2.2.1,x.1.2.2.2.2.2.2.2.2.1,(⟨x.1.2.2.2.2.2.2.2.2.2.1,x.1.2.2.2.2.2.2.2.2.2.2.1⟩:qG6),(⟨x.1.2.2.2.2.2.2.2.2.2.2.2.1,x.1.2.2.2.2.2.2.2.2.2.2.2.2.1⟩:qG6),(⟨x.1.2.2.2.2.2.2.2.2.2.2.2.2.2.1,x.1.2.2.2.2.2.2.2.2.2.2.2.2.2.2.1⟩:qG6)⟩:qG4) x.2.1 x.2.2.1) (fun x y r=>.c (.o (.vI r))) fun x y r=>[.view .node y.1,.view .str y.2.1]
theorem zbp_val:qAo Tryd.prog 37 zbp_c:=qAn zbp_chk 7 zbp_Gok 2 (fun x=>Nat.le_of_ble_eq_true rfl) (fun y=>rfl) zbp_subs fun x y=>by
 simp only [zbp_s,-eq_self,qAe,qAh,obA,obS,slL,slR,qAd]
 kernel_rfl
def zbp_w:CQ:=qCi [(0,some 0,some (.node,46)),(0,some 5,some (.str,9))] (qEl [false,false] zbp_c)
theorem zbp_ok:qAg Tryd.prog 37 zbp_w:=qDp zbp_val
def zbl_q:IQ:=(.seq (rg 8 [oP 4 (.box 51 15 t0),oP 8 (.mv vF)]) (.seq (.seq (rg 17 [oP 16 (.call 26 []),oP 17 (.un .not t16)]) (.cond t17 (.seq (rg 8 [oP 8 (.mv vF)]) (.cn [8] .ret)) .skip)) (.seq (rg 9 [oP 18 (.load (some 15) t4),oM 19 t1,oM 20 t3,oP 21 (.call 35 [t18,t19,t20]),oM 9 t21]) (.seq (rg 11 [oP 23 (.load (some 15) t4),oM 24 t1,oP 25 (.call 36 [t23,t24]),oM 22 t25,oP 26 (.extract t22 0),oP 27 (.extract t22 1),oP 10 (.alloc 68 [.bool false,.int .i64 0,.int .i64 0]),oN (.store 3 t10 t26),oM 11 t27]) (.seq (.seq (rg 33 [oM 28 t1,oP 29 (.bi .lss t28 (vI 0)),oM 30 t29,oE 31 (.mv t1) 30,oE 32 (.bi .gtr t31 (vI 600)) 30,oP 33 (.pick t30 vT t32)]) (.cond t33 (.seq (rg 8 [oM 34 t9,oP 35 (.bi .eql t34 (vI 12)),oM 36 t35,oF 37 (.mv t11) 36,oF 38 (.bi .eql t37 (vI 12)) 36,oP 39 (.pick t36 t38 vF),oM 40 t39,oF 41 (.load (some 3) t10) 40,oF 42 (.build [.bool false,.int .i64 0,.int .i64 0] []) 40,oF 43 (.ext (.aggEq false [.bool,.int .i64,.int .i64]) [t41,t42]) 40,oP 44 (.pick t40 t43 vF),oM 8 t44]) (.cn [8] .ret)) .skip)) (.seq (.seq (rg 54 [oM 45 t11,oP 46 (.bi .neq t45 (vI 0)),oM 47 t46,oE 48 (.mv t9) 47,oE 49 (.load (some 15) t4) 47,oE 50 (.mv t1) 47,oE 51 (.mv t3) 47,oE 52 (.call 37 [t49,t50,t51]) 47,oE 53 (.bi .neq t48 t52) 47,oP 54 (.pick t47 vT t53)]) (.cond t54 (.seq (rg 8 [oP 8 (.mv vF)]) (.cn [8] .ret)) .skip)) (.seq (.seq (rg 56 [oP 55 (.faddr 0 t10),oP 56 (.load none t55)]) (.cond t56 (.seq (rg 8 [oM 57 t9,oP 58 (.bi .neq t57 (vI 0)),oM 59 t58,oF 60 (.faddr 1 t10) 59,oF 61 (.load none t60) 59,oF 62 (.bi .eql t61 (vI 0)) 59,oP 63 (.pick t59 t62 vF),oM 64 t63,oF 65 (.faddr 2 t10) 64,oF 66 (.load none t65) 64,oF 67 (.bi .eql t66 (vI 0)) 64,oP 68 (.pick t64 t67 vF),oM 8 t68]) (.cn [8] .ret)) .skip)) (.seq (.seq (rg 88 [oM 69 t9,oP 70 (.bi .eql t69 (vI 0)),oP 71 (.faddr 1 t10),oP 72 (.load none t71),oM 73 t3,oP 74 (.bi .leq t72 t73),oM 75 t74,oF 76 (.mv t3) 75,oF 77 (.faddr 2 t10) 75,oF 78 (.load none t77) 75,oF 79 (.bi .leq t76 t78) 75,oP 80 (.pick t75 t79 vF),oP 81 (.beq true t70 t80),oM 82 t81,oE 83 (.faddr 2 t10) 82,oE 84 (.load none t83) 82,oE 85 (.faddr 1 t10) 82,oE 86 (.load none t85) 82,oE 87 (.bi .lss t84 t86) 82,oP 88 (.pick t82 vT t87)]) (.cond t88 (.seq (rg 8 [oP 8 (.mv vF)]) (.cn [8] .ret)) .skip)) (.seq (.seq (rg 102 [oP 89 (.load (some 15) t4),oM 90 t1,oP 91 (.faddr 1 t10),oP 92 (.load none t91),oP 93 (.call 35 [t89,t90,t92]),oP 94 (.bi .neq t93 (vI 0)),oM 95 t94,oE 96 (.load (some 15) t4) 95,oE 97 (.mv t1) 95,oE 98 (.faddr 2 t10) 95,oE 99 (.load none t98) 95,oE 100 (.call 35 [t96,t97,t99]) 95,oE 101 (.bi .neq t100 (vI 0)) 95,oP 102 (.pick t95 vT t101)]) (.cond t102 (.seq (rg 8 [oP 8 (.mv vF)]) (.cn [8] .ret)) .skip)) (.seq (rg 12 [oP 12 (.mv (.v (.int .i64 (-9223372036854775808))))]) (.seq (.seq (rg 129 [oP 103 (.faddr 1 t10),oP 104 (.load none t103),oM 105 t12,oP 106 (.bi .gtr t104 t105),oM 107 t106,oF 108 (.load (some 15) t4) 107,oF 109 (.mv t1) 107,oF 110 (.faddr 1 t10) 107,oF 111 (.load none t110) 107,oF 112 (.bi .sub t111 (vI 1)) 107,oF 113 (.call 35 [t108,t109,t112]) 107,oF 114 (.bi .eql t113 (vI 0)) 107,oP 115 (.pick t107 t114 vF),oM 116 t115,oE 117 (.faddr 2 t10) 116,oE 118 (.load none t117) 116,oE 119 (.bi .lss t118 (vI 9223372036854775807)) 116,oE 120 (.mv t119) 116,oF 121 (.load (some 15) t4) 120,oF 122 (.mv t1) 120,oF 123 (.faddr 2 t10) 120,oF 124 (.load none t123) 120,oF 125 (.bi .add t124 (vI 1)) 120,oF 126 (.call 35 [t121,t122,t125]) 120,oF 127 (.bi .neq t126 (vI 134)) 120,oE 128 (.pick t120 t127 vF) 116,oP 129 (.pick t116 vT t128)]) (.cond t129 (.seq (rg 8 [oP 8 (.mv vF)]) (.cn [8] .ret)) .skip)) (.seq (.seq (rg 131 [oM 130 t9,oP 131 (.bi .neq t130 (vI 0))]) (.cond t131 (.seq (rg 8 [oP 8 (.mv vT)]) (.cn [8] .ret)) .skip)) (.seq (.seq (rg 145 [oM 132 t2,oM 133 t1,oP 134 (.bi .geq t132 t133),oM 135 t134,oF 136 (.mv t2) 135,oF 137 (.bi .leq t136 (vI 600)) 135,oP 138 (.pick t135 t137 vF),oM 139 t138,oF 140 (.load (some 15) t4) 139,oF 141 (.mv t2) 139,oF 142 (.mv t3) 139,oF 143 (.call 35 [t140,t141,t142]) 139,oF 144 (.bi .neq t143 (vI 0)) 139,oP 145 (.pick t139 t144 vF)]) (.cond t145 (.seq (rg 8 [oP 8 (.mv vF)]) (.cn [8] .ret)) .skip)) (.seq (rg 0 [oP 146 (.load (some 15) t4),oP 13 (.alloc 51 [.slice none 0 0,.string ⟨#[]⟩,.bool false,.string ⟨#[]⟩,.bool false,.slice none 0 0,.bool false,.string ⟨#[]⟩,.bool false,.bool false,.int .i64 0,.bool false,.int .i64 0,.bool false,.int .i64 0]),oN (.store 15 t13 t146)]) (.seq (rg 0 [oP 147 (.build [.bool false,.int .i64 0] []),oP 148 (.faddr 9 t13),oN (.store 2 t148 t147)]) (.seq (rg 0 [oP 149 (.load (some 15) t4),oP 14 (.alloc 51 [.slice none 0 0,.string ⟨#[]⟩,.bool false,.string ⟨#[]⟩,.bool false,.slice none 0 0,.bool false,.string ⟨#[]⟩,.bool false,.bool false,.int .i64 0,.bool false,.int .i64 0,.bool false,.int .i64 0]),oN (.store 15 t14 t149)]) (.seq (rg 0 [oP 150 (.build [.bool false,.int .i64 0] []),oP 151 (.faddr 11 t14),oN (.store 2 t151 t150)]) (.seq (rg 0 [oP 152 (.load (some 15) t4),oP 15 (.alloc 51 [.slice none 0 0,.string ⟨#[]⟩,.bool false,.string ⟨#[]⟩,.bool false,.slice none 0 0,.bool false,.string ⟨#[]⟩,.bool false,.bool false,.int .i64 0,.bool false,.int .i64 0,.bool false,.int .i64 0]),oN (.store 15 t15 t152)]) (.seq (rg 0 [oP 153 (.build [.bool false,.int .i64 0] []),oP 154 (.faddr 13 t15),oN (.store 2 t154 t153)]) (.seq (rg 8 [oP 155 (.load (some 15) t13),oM 156 t1,oM 157 t3,oP 158 (.call 35 [t155,t156,t157]),oP 159 (.bi .eql t158 (vI 0)),oM 160 t159,oF 161 (.load (some 15) t14) 160,oF 162 (.mv t1) 160,oF 163 (.mv t3) 160,oF 164 (.call 35 [t161,t162,t163]) 160,oF 165 (.bi .eql t164 (vI 0)) 160,oP 166 (.pick t160 t165 vF),oM 167 t166,oF 168 (.load (some 15) t15) 167,oF 169 (.mv t1) 167,oF 170 (.mv t3) 167,oF 171 (.call 35 [t168,t169,t170]) 167,oF 172 (.bi .eql t171 (vI 0)) 167,oP 173 (.pick t167 t172 vF),oM 8 t173]) (.cn [8] .ret)))))))))))))))))))))
theorem zbl_chk:chk Tryd.prog 11 []=some (zbl_q.erase,[.tmp 8],174):=by kernel_rfl
def zbl_s (c:qG4) (leeway more now:Int):Option Bool :=
 (zbm_s).bind fun r1 =>
 bif (!r1) then (
  some false)
 else (
  (qBy c leeway now).bind fun r2 =>
  (zac_s c leeway).bind fun r3 =>
  bif ((decide (leeway<(0:Int))) || (decide ((600:Int)<leeway))) then (
   some (((decide (r2=(12:Int))) && (decide (r3.2=(12:Int)))) && ((r3.1.empty == false) && (decide (r3.1.from_=(0:Int)) && (decide (r3.1.to_=(0:Int)) && true)))))
  else (
   bif (!decide (r3.2=(0:Int))) then (
    some false)
   else (
    (zbp_s c leeway now).bind fun r4 =>
    bif (!decide (r2=r4)) then (
     some false)
    else (
     bif r3.1.empty then (
      some (((!decide (r2=(0:Int))) && (decide (r3.1.from_=(0:Int)))) && (decide (r3.1.to_=(0:Int)))))
     else (
      bif ((!((decide (r2=(0:Int))) == ((decide (r3.1.from_≤now)) && (decide (now≤r3.1.to_))))) || (decide (r3.1.to_<r3.1.from_))) then (
       some false)
      else (
       (qBy c leeway r3.1.from_).bind fun r5 =>
       bif (!decide (r5=(0:Int))) then (
        some false)
       else (
        (qBy c leeway r3.1.to_).bind fun r6 =>
        bif (!decide (r6=(0:Int))) then (
         some false)
        else (
         gd ((decide ((-9223372036854775808:Int)<r3.1.from_))=true→qAc (r3.1.from_ - (1:Int))) <|
         bif decide ((-9223372036854775808:Int)<r3.1.from_) then (
          (qBy c leeway (r3.1.from_ - (1:Int))).bind fun r7 =>
          gd ((decide (r3.1.to_<(9223372036854775807:Int)))=true→(decide (r7=(0:Int)))=false→qAc (r3.1.to_+(1:Int))) <|
          bif decide (r7=(0:Int)) then (
           some false)
          else (
           bif decide (r3.1.to_<(9223372036854775807:Int)) then (
            (qBy c leeway (r3.1.to_+(1:Int))).bind fun r8 =>
            bif (!decide (r8=(134:Int))) then (
             some false)
            else (
             bif (!decide (r2=(0:Int))) then (
              some true)
             else (
              bif ((decide (leeway≤more)) && (decide (more≤(600:Int)))) then (
               (qBy c more now).bind fun r9 =>
               bif (!decide (r9=(0:Int))) then (
                some false)
               else (
                (qBy (⟨c.value,c.iss,c.hasIss,c.sub,c.hasSub,c.aud,c.hasAud,c.jti,c.hasJti,(⟨false,(0:Int)⟩:qG6),c.nbf,c.iat⟩:qG4) leeway now).bind fun r10 =>
                bif decide (r10=(0:Int)) then (
                 (qBy (⟨c.value,c.iss,c.hasIss,c.sub,c.hasSub,c.aud,c.hasAud,c.jti,c.hasJti,c.exp_,(⟨false,(0:Int)⟩:qG6),c.iat⟩:qG4) leeway now).bind fun r11 =>
                 bif decide (r11=(0:Int)) then (
                  (qBy (⟨c.value,c.iss,c.hasIss,c.sub,c.hasSub,c.aud,c.hasAud,c.jti,c.hasJti,c.exp_,c.nbf,(⟨false,(0:Int)⟩:qG6)⟩:qG4) leeway now).bind fun r12 =>
                  some (decide (r12=(0:Int))))
                 else (
                  some false))
                else (
                 some false)))
              else (
               (qBy (⟨c.value,c.iss,c.hasIss,c.sub,c.hasSub,c.aud,c.hasAud,c.jti,c.hasJti,(⟨false,(0:Int)⟩:qG6),c.nbf,c.iat⟩:qG4) leeway now).bind fun r13 =>
               bif decide (r13=(0:Int)) then (
                (qBy (⟨c.value,c.iss,c.hasIss,c.sub,c.hasSub,c.aud,c.hasAud,c.jti,c.hasJti,c.exp_,(⟨false,(0:Int)⟩:qG6),c.iat⟩:qG4) leeway now).bind fun r14 =>
                bif decide (r14=(0:Int)) then (
                 (qBy (⟨c.value,c.iss,c.hasIss,c.sub,c.hasSub,c.aud,c.hasAud,c.jti,c.hasJti,c.exp_,c.nbf,(⟨false,(0:Int)⟩:qG6)⟩:qG4) leeway now).bind fun r15 =>
                 some (decide (r15=(0:Int))))
                else (
                 some false))
               else (
                some false)))))
           else (
            bif (!decide (r2=(0:Int))) then (
             some true)
            else (
             bif ((decide (leeway≤more)) && (decide (more≤(600:Int)))) then (
              (qBy c more now).bind fun r16 =>
              bif (!decide (r16=(0:Int))) then (
               some false)
              else (
               (qBy (⟨c.value,c.iss,c.hasIss,c.sub,c.hasSub,c.aud,c.hasAud,c.jti,c.hasJti,(⟨false,(0:Int)⟩:qG6),c.nbf,c.iat⟩:qG4) leeway now).bind fun r17 =>
               bif decide (r17=(0:Int)) then (
                (qBy (⟨c.value,c.iss,c.hasIss,c.sub,c.hasSub,c.aud,c.hasAud,c.jti,c.hasJti,c.exp_,(⟨false,(0:Int)⟩:qG6),c.iat⟩:qG4) leeway now).bind fun r18 =>
                bif decide (r18=(0:Int)) then (
                 (qBy (⟨c.value,c.iss,c.hasIss,c.sub,c.hasSub,c.aud,c.hasAud,c.jti,c.hasJti,c.exp_,c.nbf,(⟨false,(0:Int)⟩:qG6)⟩:qG4) leeway now).bind fun r19 =>
                 some (decide (r19=(0:Int))))
                else (
                 some false))
               else (
                some false)))
             else (
              (qBy (⟨c.value,c.iss,c.hasIss,c.sub,c.hasSub,c.aud,c.hasAud,c.jti,c.hasJti,(⟨false,(0:Int)⟩:qG6),c.nbf,c.iat⟩:qG4) leeway now).bind fun r20 =>
              bif decide (r20=(0:Int)) then (
               (qBy (⟨c.value,c.iss,c.hasIss,c.sub,c.hasSub,c.aud,c.hasAud,c.jti,c.hasJti,c.exp_,(⟨false,(0:Int)⟩:qG6),c.iat⟩:qG4) leeway now).bind fun r21 =>
               bif decide (r21=(0:Int)) then (
                (qBy (⟨c.value,c.iss,c.hasIss,c.sub,c.hasSub,c.aud,c.hasAud,c.jti,c.hasJti,c.exp_,c.nbf,(⟨false,(0:Int)⟩:qG6)⟩:qG4) leeway now).bind fun r22 =>
                some (decide (r22=(0:Int))))
               else (
                some false))
              else (
               some false))))))
         else (
          gd ((decide (r3.1.to_<(9223372036854775807:Int)))=true→false=false→qAc (r3.1.to_+(1:Int))) <|
          bif decide (r3.1.to_<(9223372036854775807:Int)) then (
           (qBy c leeway (r3.1.to_+(1:Int))).bind fun r23 =>
           bif (!decide (r23=(134:Int))) then (
            some false)
           else (
            bif (!decide (r2=(0:Int))) then (
             some true)
            else (
             bif ((decide (leeway≤more)) && (decide (more≤(600:Int)))) then (
              (qBy c more now).bind fun r24 =>
              bif (!decide (r24=(0:Int))) then (
               some false)
              else (
               (qBy (⟨c.value,c.iss,c.hasIss,c.sub,c.hasSub,c.aud,c.hasAud,c.jti,c.hasJti,(⟨false,(0:Int)⟩:qG6),c.nbf,c.iat⟩:qG4) leeway now).bind fun r25 =>
               bif decide (r25=(0:Int)) then (
                (qBy (⟨c.value,c.iss,c.hasIss,c.sub,c.hasSub,c.aud,c.hasAud,c.jti,c.hasJti,c.exp_,(⟨false,(0:Int)⟩:qG6),c.iat⟩:qG4) leeway now).bind fun r26 =>
                bif decide (r26=(0:Int)) then (
                 (qBy (⟨c.value,c.iss,c.hasIss,c.sub,c.hasSub,c.aud,c.hasAud,c.jti,c.hasJti,c.exp_,c.nbf,(⟨false,(0:Int)⟩:qG6)⟩:qG4) leeway now).bind fun r27 =>
                 some (decide (r27=(0:Int))))
                else (
                 some false))
               else (
                some false)))
             else (
              (qBy (⟨c.value,c.iss,c.hasIss,c.sub,c.hasSub,c.aud,c.hasAud,c.jti,c.hasJti,(⟨false,(0:Int)⟩:qG6),c.nbf,c.iat⟩:qG4) leeway now).bind fun r28 =>
              bif decide (r28=(0:Int)) then (
               (qBy (⟨c.value,c.iss,c.hasIss,c.sub,c.hasSub,c.aud,c.hasAud,c.jti,c.hasJti,c.exp_,(⟨false,(0:Int)⟩:qG6),c.iat⟩:qG4) leeway now).bind fun r29 =>
               bif decide (r29=(0:Int)) then (
                (qBy (⟨c.value,c.iss,c.hasIss,c.sub,c.hasSub,c.aud,c.hasAud,c.jti,c.hasJti,c.exp_,c.nbf,(⟨false,(0:Int)⟩:qG6)⟩:qG4) leeway now).bind fun r30 =>
                some (decide (r30=(0:Int))))
               else (
                some false))
              else (
               some false)))))
          else (
           bif (!decide (r2=(0:Int))) then (
            some true)
           else (
            bif ((decide (leeway≤more)) && (decide (more≤(600:Int)))) then (
             (qBy c more now).bind fun r31 =>
             bif (!decide (r31=(0:Int))) then (
              some false)
             else (
              (qBy (⟨c.value,c.iss,c.hasIss,c.sub,c.hasSub,c.aud,c.hasAud,c.jti,c.hasJti,(⟨false,(0:Int)⟩:qG6),c.nbf,c.iat⟩:qG4) leeway now).bind fun r32 =>
              bif decide (r32=(0:Int)) then (
               (qBy (⟨c.value,c.iss,c.hasIss,c.sub,c.hasSub,c.aud,c.hasAud,c.jti,c.hasJti,c.exp_,(⟨false,(0:Int)⟩:qG6),c.iat⟩:qG4) leeway now).bind fun r33 =>
               bif decide (r33=(0:Int)) then (
                (qBy (⟨c.value,c.iss,c.hasIss,c.sub,c.hasSub,c.aud,c.hasAud,c.jti,c.hasJti,c.exp_,c.nbf,(⟨false,(0:Int)⟩:qG6)⟩:qG4) leeway now).bind fun r34 =>
                some (decide (r34=(0:Int))))
               else (
                some false))
              else (
               some false)))
            else (
             (qBy (⟨c.value,c.iss,c.hasIss,c.sub,c.hasSub,c.aud,c.hasAud,c.jti,c.hasJti,(⟨false,(0:Int)⟩:qG6),c.nbf,c.iat⟩:qG4) leeway now).bind fun r35 =>
             bif decide (r35=(0:Int)) then (
              (qBy (⟨c.value,c.iss,c.hasIss,c.sub,c.hasSub,c.aud,c.hasAud,c.jti,c.hasJti,c.exp_,(⟨false,(0:Int)⟩:qG6),c.iat⟩:qG4) leeway now).bind fun r36 =>
              bif decide (r36=(0:Int)) then (
               (qBy (⟨c.value,c.iss,c.hasIss,c.sub,c.hasSub,c.aud,c.hasAud,c.jti,c.hasJti,c.exp_,c.nbf,(⟨false,(0:Int)⟩:qG6)⟩:qG4) leeway now).bind fun r37 =>
               some (decide (r37=(0:Int))))
              else (
               some false))
             else (
              some false)))))))))))))
def zbl_G:Nat→Option CQ:=tblQ [(26,zbm_w),(35,zab_w),(36,zac_w),(37,zbp_w)]
theorem zbl_Gok:∀f C,zbl_G f=some C→qAg Tryd.prog f C:=qAl ⟨zbm_ok,zab_ok,zac_ok,zbp_ok,tV⟩
def zbl_L:Nat→SubQ:=tblL []
theorem zbl_subs:qAp zbl_L zbl_G 2 16 174 zbl_q:=qAm (show qAq zbl_L zbl_G 2 16 174 [] from tV)
def zbl_da:=(qAa (dVC (dCA (qAa (dO 0) (qAa dS (qAa dB (qAa dS (qAa dB (qAa (dO 1) (qAa dB (qAa dS (qAa dB (qAa dB (qAa dZ (qAa dB (qAa dZ (qAa dB (qAa dZ dNil))))))))))))))))) (qAa (dVC (dCO dZ)) (qAa (dVC (dCO dZ)) (qAa (dVC (dCO dZ)) dNil))))
def zbl_db:=(qAa (qAu .node) (qAa (qAu .str) dNil))
def zbl_c:CS:=mkC zbl_da zbl_db (fun x y=>zbl_s (⟨y.1,x.1.2.1,x.1.2.2.1,x.1.2.2.2.1,x.1.2.2.2.2.1,y.2.1,x.1.2.2.2.2.2.2.1,x.1.2.2.2.2.2.2.2.1,x.1.2.2.2.2.2.2.2.2.1,(⟨x.1.2.2.2.2.2.2.2.2.2.1,x.1.2.2.2.2.2.2.2.2.2.2.1⟩:qG6),(⟨x.1.2.2.2.2.2.2.2.2.2.2.2.1,x.1.2.2.2.2.2.2.2.2.2.2.2.2.1⟩:qG6),(⟨x.1.2.2.2.2.2.2.2.2.2.2.2.2.2.1,x.1.2.2.2.2.2.2.2.2.2.2.2.2.2.2.1⟩:qG6)⟩:qG4) x.2.1 x.2.2.1 x.2.2.2.1) (fun x y r=>.c (.o (.vB r))) fun x y r=>[.view .node y.1,.view .str y.2.1]
theorem zbl_val:qAo Tryd.prog 11 zbl_c:=qAn zbl_chk 16 zbl_Gok 2 (fun x=>Nat.le_of_ble_eq_true rfl) (fun y=>rfl) zbl_subs fun x y=>by
 simp only [zbl_s,-eq_self,qAe,qAh,obA,obS,slL,slR,qAd]
 kernel_rfl
end
end Go.Proofs.YticplgndjpljiaaDoor
