/-
  Functions as the engine reads them (printed by gen.py).
-/
import Derived.Test.YtnifdcmeffnpaaaDoorEngO
import Derived.Test.YtnifdcmeffnpaaaDoorProg
import Derived.Test.YtnifdcmeffnpaaaDoorPUtf
import Derived.Test.YtnifdcmeffnpaaaDoorJW
import Derived.Test.YtnifdcmeffnpaaaDoorGC
import Derived.Test.YtnifdcmeffnpaaaDoorJP
namespace Go.Proofs.YtnifdcmeffnpaaaDoor
open Go.Eng
set_option linter.unusedVariables false
set_option linter.unusedSimpArgs false
set_option maxRecDepth 100000
noncomputable section
structure keyset_reader where
 v:(List Eng.Node)
 at_:Int
 bad:Bool
structure qGc where
 value:(List Eng.Node)
 kty:Int
 kid:BA
 hasKid:Bool
 use:BA
 hasUse:Bool
 alg:BA
 hasAlg:Bool
 ops:(List BA)
 hasOps:Bool
def zbk_q:IQ:=(.seq (rg 5 [oP 4 (.mv (.v (.string ⟨#[]⟩))),oP 5 (.mv vF)]) (.seq (.reg 6 (some [0,1,2,3,4,5,6,7,8,9,10]) (rF 7 t0 0++rF 11 t0 1++[oM 15 t1,oP 16 (.call 9 [t10,t14,t15]),oM 6 t16])) (.seq (.seq (rg 18 [oM 17 t6,oP 18 (.bi .lss t17 (vI 0))]) (.cond t18 (.seq (rg 5 [oP 4 (.mv (.v (.string ⟨#[]⟩))),oP 5 (.mv vF)]) (.cn [4,5] .ret)) .skip)) (.seq (.seq (rg 27 (rF 19 t0 0++[oM 23 t6,oP 24 (.iaddr 6 t22 t23),oP 25 (.faddr 0 t24),oP 26 (.load none t25),oP 27 (.bi .neq t26 (vI 5))])) (.cond t27 (.seq (rg 0 ([oM 28 t0]++rS 29 t28 2 vT)) (.seq (rg 5 [oP 4 (.mv (.v (.string ⟨#[]⟩))),oP 5 (.mv vF)]) (.cn [4,5] .ret))) .skip)) (.seq (rg 5 (rF 31 t0 0++[oM 35 t6,oP 36 (.iaddr 6 t34 t35),oP 37 (.faddr 2 t36),oP 38 (.load none t37),oM 4 t38,oP 5 (.mv vT)])) (.cn [4,5] .ret))))))
theorem zbk_chk:chk Tryd.prog 31 []=some (zbk_q.erase,[.tmp 4,.tmp 5],39):=by kernel_rfl
def zbk_s (r_:keyset_reader) (name:BA):Option (keyset_reader × BA × Bool) :=
 (qEv r_.v r_.at_ name).bind fun r2 =>
 bif decide (r2<(0:Int)) then (
  some (r_,(⟨#[]⟩:BA),false))
 else (
  gd (0≤r2∧r2<r_.v.length) <|
  gd ((Int.toNat r2)<r_.v.length) <|
  gd ((Int.toNat r2)<r_.v.length) <|
  bif (!decide (((r_.v.getD (Int.toNat r2) (ET.dft .node)).kind)=(5:Int))) then (
   some ((⟨r_.v,r_.at_,true⟩:keyset_reader),(⟨#[]⟩:BA),false))
  else (
   gd (0≤r2∧r2<r_.v.length) <|
   gd ((Int.toNat r2)<r_.v.length) <|
   gd ((Int.toNat r2)<r_.v.length) <|
   some (r_,(r_.v.getD (Int.toNat r2) (ET.dft .node)).text,true)))
def zbk_G:Nat→Option CQ:=tblQ [(9,zah_w)]
theorem zbk_Gok:∀f C,zbk_G f=some C→qAe Tryd.prog f C:=qAi ⟨zah_ok,tV⟩
def zbk_L:Nat→SubQ:=tblL []
theorem zbk_subs:qAo zbk_L zbk_G 2 7 39 zbk_q:=qAk (show qAp zbk_L zbk_G 2 7 39 [] from tV)
def zbk_da:=(qAb (dVC (dCO (dH 0 0))) (qAb (dVC (dCO dS)) dNil))
def zDJK3:=(dCells 71 (qAb (dO 1) (qAb dZ (qAb dB dNil))))
def zbk_db:=(qAb zDJK3 (qAb (qA9 .node) dNil))
def zbk_c:CS:=mkC zbk_da zbk_db (fun x y=>zbk_s (⟨y.2.1,y.1.2.1,y.1.2.2.1⟩:keyset_reader) x.2.1) (fun x y r=>.tup [.o (.vS r.2.1),.o (.vB r.2.2)]) fun x y r=>[.cells 71 [.own 1,.vI r.1.at_,.vB r.1.bad],.view .node y.2.1]
theorem zbk_val:qAl Tryd.prog 31 zbk_c:=qAm zbk_chk 7 zbk_Gok 2 (fun x=>Nat.le_of_ble_eq_true rfl) (fun y=>rfl) zbk_subs fun x y=>by
 simp only [zbk_s,-eq_self,qAd,qAg,obA,obS,slL,slR,qAc];kernel_rfl
def zbk_w:CQ:=nestQ (qBj [(0,some 0,some (.node,34))] (qCk [true,false] zbk_c))
theorem zbk_ok:qAe Tryd.prog 31 zbk_w:=(fun h=>qCv (prep_nat (liftG_nat h.1)) (qAr h)) zbk_val
def zbj_q:IQ:=(.seq (rg 2 [oP 2 (.mv (vI 0))]) (.seq (.seq (rg 3 [oM 3 t0]) (.block 0 (.seq (rg 4 [oP 5 (.bi .eql t3 (.v (.string ⟨#[111,99,116]⟩))),oM 4 t5]) (.cond t4 (.seq (rg 2 [oP 2 (.mv (vI 1))]) (.cn [2] .ret)) (.seq (rg 6 [oP 7 (.bi .eql t3 (.v (.string ⟨#[82,83,65]⟩))),oM 6 t7]) (.cond t6 (.seq (rg 2 [oP 2 (.mv (vI 2))]) (.cn [2] .ret)) (.seq (rg 8 [oP 9 (.bi .eql t3 (.v (.string ⟨#[69,67]⟩))),oM 8 t9]) (.cond t8 (.seq (rg 2 [oP 2 (.mv (vI 3))]) (.cn [2] .ret)) (.seq (rg 10 [oP 11 (.bi .eql t3 (.v (.string ⟨#[79,75,80]⟩))),oM 10 t11]) (.cond t10 (.seq (rg 2 [oP 2 (.mv (vI 4))]) (.cn [2] .ret)) .skip)))))))))) (.seq (rg 2 [oP 2 (.mv (vI 0))]) (.cn [2] .ret))))
theorem zbj_chk:chk Tryd.prog 39 []=some (zbj_q.erase,[.tmp 2],12):=by kernel_rfl
def zbj_s (s:BA):Option Int :=
 bif decide (s=(⟨#[111,99,116]⟩:BA)) then (
  some (1:Int))
 else (
  bif decide (s=(⟨#[82,83,65]⟩:BA)) then (
   some (2:Int))
  else (
   bif decide (s=(⟨#[69,67]⟩:BA)) then (
    some (3:Int))
   else (
    bif decide (s=(⟨#[79,75,80]⟩:BA)) then (
     some (4:Int))
    else (
     some (0:Int)))))
def zbj_G:Nat→Option CQ:=tblQ []
theorem zbj_Gok:∀f C,zbj_G f=some C→qAe Tryd.prog f C:=fun f C h=>by cases h
def zbj_L:Nat→SubQ:=tblL []
theorem zbj_subs:qAo zbj_L zbj_G 0 4 12 zbj_q:=qAk (show qAp zbj_L zbj_G 0 4 12 [] from tV)
def zbj_da:=(qAb (dVC (dCO dS)) dNil)
def zbj_db:=(dNil:Dec Unit (List SB))
def zbj_c:CS:=mkC zbj_da zbj_db (fun x y=>zbj_s x.1) (fun x y r=>.c (.o (.vI r))) fun x y r=>[]
theorem zbj_val:qAl Tryd.prog 39 zbj_c:=qAm zbj_chk 4 zbj_Gok 0 (fun x=>Nat.le_of_ble_eq_true rfl) (fun y=>rfl) zbj_subs fun x y=>by
 simp only [zbj_s,-eq_self,qAd,qAg,obA,obS,slL,slR,qAc];kernel_rfl
def zbj_w:CQ:=qC3 [] zbj_c
theorem zbj_ok:qAe Tryd.prog 39 zbj_w:=qA2 zbj_val
def zbx_b0:IQ:=(.loop [0,1,7,8] (.seq (rg 9 [oP 9 (.bi .lss t8 t7)]) (.seq (.cond t9 .skip (.cn [] (.exit 0))) (.seq (.block 1 (.seq (rg 5 [oM 10 t8,oM 5 t10]) (.seq (rg 16 [oM 11 t1,oM 12 t0,oM 13 t5,oP 14 (.iaddr 1 t12 t13),oP 15 (.load none t14),oP 16 (.bi .eql t11 t15)]) (.cond t16 (.seq (rg 4 [oM 17 t5,oM 4 t17]) (.cn [4] .ret)) .skip)))) (rg 8 [oP 18 (.bi .add t8 (vI 1)),oM 8 t18])))))
def zbx_q:IQ:=(.seq (rg 4 [oP 4 (.mv (vI 0))]) (.seq (.seq (rg 8 [oM 6 t0,oP 7 (.len t6),oP 8 (.mv (vI 0))]) (.block 0 (.cn [0,1,7,8] (.sub 0 zbx_b0)))) (.seq (rg 4 [oP 4 (.mv (.v (.int .i64 (-1))))]) (.cn [4] .ret))))
theorem zbx_chk:chk Tryd.prog 47 []=some (zbx_q.erase,[.tmp 4],19):=by kernel_rfl
def qCw (v:BA) (x7_ x8_:Int) (s:List BA):Option (Int ⊕ (Int ⊕ Unit)) :=
 bif decide (x8_<x7_) then (
  gd (0≤x8_∧x8_<s.length) <|
  gd ((Int.toNat x8_)<s.length) <|
  bif decide (v=(s.getD (Int.toNat x8_) (ET.dft .str))) then (
   some (.inr (.inl x8_)))
  else (
   gd (qAj (x8_+(1:Int))) <|
   some (.inl (x8_+(1:Int)))))
 else (
  some (.inr (.inr ())))
def zbx_p0 (v:BA) (x7_ x8_:Int) (s:List BA):Option (Int ⊕ Unit) :=
 qBh (fun x:Int=>qCw v x7_ x s) x8_
def zbx_s (s:(List BA)) (v:BA):Option Int :=
 (zbx_p0 v (s.length:Int) (0:Int) s).bind fun o1=>(Sum.elim (fun (o1_0:Int) =>
  some o1_0) (fun (o1_1:Unit) =>
  some (-1:Int))) o1
def zbx_G:Nat→Option CQ:=tblQ []
theorem zbx_Gok:∀f C,zbx_G f=some C→qAe Tryd.prog f C:=fun f C h=>by cases h
def zbx_d0:=(dQS (qAb (dSO 0 (dO 0)) (qAb (dSO 1 dS) (qAb (dSO 7 dZ) (qAb (dSO 8 dZ) dNil)))) (qAb (qA9 .str) dNil))
def zbx_l0:SubQ:=mkL zbx_d0 (fun x=>zbx_p0 x.1.2.1 x.1.2.2.1 x.1.2.2.2.1 x.2.1) fun x r R kn kx kr=>(Sum.elim (fun (r_0:Int)=>kr ⟨[sL 4 (.vI r_0)],[],[.view .str x.2.1]⟩) (fun (r_1:Unit)=>kx 0 ⟨[],[],[.view .str x.2.1]⟩)) r
def zbx_L:Nat→SubQ:=tblL [(0,zbx_l0)]
theorem zbx_sub0:qBr zbx_L zbx_G 1 9 19 0 zbx_b0:=qAu (show zbx_L 0=zbx_l0 from by kernel_rfl) fun x R kn kx kr=>qAs (step:=fun y=>qCw x.1.2.1 x.1.2.2.1 y x.2.1) (enc:=fun (y:Int)=>zbx_d0.e ((x.1.1,x.1.2.1,x.1.2.2.1,y,x.1.2.2.2.2),x.2)) (fun y=>by kernel_rfl) (fun y ki=>by simp only [qCw,-eq_self,qAd,qAg,obA,obS,slL,slR,qAc]; kernel_rfl) x.1.2.2.2.1
theorem zbx_subs:qAo zbx_L zbx_G 1 9 19 zbx_q:=qAk (show qAp zbx_L zbx_G 1 9 19 [(0,zbx_b0)] from ⟨zbx_sub0,tV⟩)
def zbx_da:=(qAb (dVC (dCO (dO 0))) (qAb (dVC (dCO dS)) dNil))
def zbx_db:=(qAb (qA9 .str) dNil)
def zbx_c:CS:=mkC zbx_da zbx_db (fun x y=>zbx_s y.1 x.2.1) (fun x y r=>.c (.o (.vI r))) fun x y r=>[.view .str y.1]
theorem zbx_val:qAl Tryd.prog 47 zbx_c:=qAm zbx_chk 9 zbx_Gok 1 (fun x=>Nat.le_of_ble_eq_true rfl) (fun y=>rfl) zbx_subs fun x y=>by
 simp only [zbx_s,-eq_self,qAd,qAg,obA,obS,slL,slR,qAc];kernel_rfl
def zbx_w:CQ:=qBj [(0,none,some (.str,9))] (qC3 [false] zbx_c)
theorem zbx_ok:qAe Tryd.prog 47 zbx_w:=qB0 zbx_val
def zbw_q:IQ:=(.seq (rg 4 [oP 4 (.mv vF)]) (.seq (rg 4 [oM 5 t0,oM 6 t1,oP 7 (.call 47 [t5,t6]),oP 8 (.bi .geq t7 (vI 0)),oM 4 t8]) (.cn [4] .ret)))
theorem zbw_chk:chk Tryd.prog 33 []=some (zbw_q.erase,[.tmp 4],9):=by kernel_rfl
def zbw_s (s:(List BA)) (v:BA):Option Bool :=
 (zbx_s s v).bind fun r1 =>
 some (decide ((0:Int)≤r1))
def zbw_G:Nat→Option CQ:=tblQ [(47,zbx_w)]
theorem zbw_Gok:∀f C,zbw_G f=some C→qAe Tryd.prog f C:=qAi ⟨zbx_ok,tV⟩
def zbw_L:Nat→SubQ:=tblL []
theorem zbw_subs:qAo zbw_L zbw_G 1 5 9 zbw_q:=qAk (show qAp zbw_L zbw_G 1 5 9 [] from tV)
def zbw_da:=(qAb (dVC (dCO (dO 0))) (qAb (dVC (dCO dS)) dNil))
def zbw_db:=(qAb (qA9 .str) dNil)
def zbw_c:CS:=mkC zbw_da zbw_db (fun x y=>zbw_s y.1 x.2.1) (fun x y r=>.c (.o (.vB r))) fun x y r=>[.view .str y.1]
theorem zbw_val:qAl Tryd.prog 33 zbw_c:=qAm zbw_chk 5 zbw_Gok 1 (fun x=>Nat.le_of_ble_eq_true rfl) (fun y=>rfl) zbw_subs fun x y=>by
 simp only [zbw_s,-eq_self,qAd,qAg,obA,obS,slL,slR,qAc];kernel_rfl
def zbw_w:CQ:=qBj [(0,none,some (.str,9))] (qC3 [false] zbw_c)
theorem zbw_ok:qAe Tryd.prog 33 zbw_w:=qB0 zbw_val
def zbl_b0:IQ:=(.loop [0,7,39,40,41] (.seq (rg 42 [oP 42 (.bi .lss t41 t40)]) (.seq (.cond t42 .skip (.cn [7] (.exit 0))) (.seq (.block 1 (.seq (rg 9 [oP 43 (.iaddr 1 t39 t41),oP 44 (.load none t43),oM 9 t44]) (.seq (.seq (rg 65 (rF 45 t0 0++[oM 49 t9,oP 50 (.iaddr 6 t48 t49),oP 51 (.faddr 0 t50),oP 52 (.load none t51),oP 53 (.bi .neq t52 (vI 5)),oM 54 t53,oE 55 (.mv t7) 54]++rH oE 56 t0 0 54++[oE 60 (.mv t9) 54,oE 61 (.iaddr 6 t59 t60) 54,oE 62 (.faddr 2 t61) 54,oE 63 (.load none t62) 54,oE 64 (.call 33 [t55,t63]) 54,oP 65 (.pick t54 vT t64)])) (.cond t65 (.seq (rg 0 ([oM 66 t0]++rS 67 t66 2 vT)) (.seq (rg 5 [oP 4 (.mv (.v (.slice none 0 0))),oP 5 (.mv vF)]) (.canon [(4,none,.str,9)] [4,5] .ret))) .skip)) (rg 7 ([oM 69 t7]++rF 70 t0 0++[oM 74 t9,oP 75 (.iaddr 6 t73 t74),oP 76 (.faddr 2 t75),oP 77 (.load none t76),oP 78 (.bslice 9 1 1 [.string ⟨#[]⟩] [(0,t77)]),oP 79 (.append 9 1 16 [.string ⟨#[]⟩] t69 t78),oM 7 t79]))))) (rg 41 [oP 80 (.bi .add t41 (vI 1)),oM 41 t80])))))
def zbl_q:IQ:=(.seq (rg 5 [oP 4 (.mv (.v (.slice none 0 0))),oP 5 (.mv vF)]) (.seq (.reg 6 (some [0,1,2,3,4,5,6,7,8,9,10]) (rF 10 t0 0++rF 14 t0 1++[oM 18 t1,oP 19 (.call 9 [t13,t17,t18]),oM 6 t19])) (.seq (.seq (rg 21 [oM 20 t6,oP 21 (.bi .lss t20 (vI 0))]) (.cond t21 (.seq (rg 5 [oP 4 (.mv (.v (.slice none 0 0))),oP 5 (.mv vF)]) (.canon [(4,none,.str,9)] [4,5] .ret)) .skip)) (.seq (.seq (rg 30 (rF 22 t0 0++[oM 26 t6,oP 27 (.iaddr 6 t25 t26),oP 28 (.faddr 0 t27),oP 29 (.load none t28),oP 30 (.bi .neq t29 (vI 6))])) (.cond t30 (.seq (rg 0 ([oM 31 t0]++rS 32 t31 2 vT)) (.seq (rg 5 [oP 4 (.mv (.v (.slice none 0 0))),oP 5 (.mv vF)]) (.canon [(4,none,.str,9)] [4,5] .ret))) .skip)) (.seq (rg 7 [oP 7 (.mv (.v (.slice none 0 0)))]) (.seq (.seq (rg 41 (rF 34 t0 0++[oM 38 t6,oP 39 (.call 10 [t37,t38]),oP 40 (.len t39),oP 41 (.mv (vI 0))])) (.block 0 (.canon [(7,none,.str,9)] [0,7,39,40,41] (.sub 0 zbl_b0)))) (.seq (rg 5 [oM 81 t7,oM 4 t81,oP 5 (.mv vT)]) (.canon [(4,none,.str,9)] [4,5] .ret))))))))
theorem zbl_chk:chk Tryd.prog 40 []=some (zbl_q.erase,[.tmp 4,.tmp 5],82):=by kernel_rfl
def qCz (x40_ x41_:Int) (r__v:List Eng.Node) (out:List BA) (x39_:List Int):Option ((Int × (List BA)) ⊕ ((Bool × Bool × (List BA)) ⊕ ((List BA)))) :=
 bif decide (x41_<x40_) then (
  gd (0≤x41_∧x41_<x39_.length) <|
  gd ((Int.toNat x41_)<x39_.length) <|
  gd (0≤(x39_.getD (Int.toNat x41_) (ET.dft .i64))∧(x39_.getD (Int.toNat x41_) (ET.dft .i64))<r__v.length) <|
  gd ((Int.toNat (x39_.getD (Int.toNat x41_) (ET.dft .i64)))<r__v.length) <|
  gd ((Int.toNat (x39_.getD (Int.toNat x41_) (ET.dft .i64)))<r__v.length) <|
  gd ((!decide (((r__v.getD (Int.toNat (x39_.getD (Int.toNat x41_) (ET.dft .i64))) (ET.dft .node)).kind)=(5:Int)))=false→0≤(x39_.getD (Int.toNat x41_) (ET.dft .i64))∧(x39_.getD (Int.toNat x41_) (ET.dft .i64))<r__v.length) <|
  gd ((!decide (((r__v.getD (Int.toNat (x39_.getD (Int.toNat x41_) (ET.dft .i64))) (ET.dft .node)).kind)=(5:Int)))=false→(Int.toNat (x39_.getD (Int.toNat x41_) (ET.dft .i64)))<r__v.length) <|
  gd ((!decide (((r__v.getD (Int.toNat (x39_.getD (Int.toNat x41_) (ET.dft .i64))) (ET.dft .node)).kind)=(5:Int)))=false→(Int.toNat (x39_.getD (Int.toNat x41_) (ET.dft .i64)))<r__v.length) <|
  bif (!decide (((r__v.getD (Int.toNat (x39_.getD (Int.toNat x41_) (ET.dft .i64))) (ET.dft .node)).kind)=(5:Int))) then (
   some (.inr (.inl (false,true,[]))))
  else (
   (zbw_s out ((r__v.getD (Int.toNat (x39_.getD (Int.toNat x41_) (ET.dft .i64))) (ET.dft .node)).text)).bind fun r13 =>
   bif r13 then (
    some (.inr (.inl (false,true,[]))))
   else (
    gd (0≤(x39_.getD (Int.toNat x41_) (ET.dft .i64))∧(x39_.getD (Int.toNat x41_) (ET.dft .i64))<r__v.length) <|
    gd ((Int.toNat (x39_.getD (Int.toNat x41_) (ET.dft .i64)))<r__v.length) <|
    gd ((Int.toNat (x39_.getD (Int.toNat x41_) (ET.dft .i64)))<r__v.length) <|
    gd (out.length+([(r__v.getD (Int.toNat (x39_.getD (Int.toNat x41_) (ET.dft .i64))) (ET.dft .node)).text]:List BA).length≤9223372036854775807∧(out.length+([(r__v.getD (Int.toNat (x39_.getD (Int.toNat x41_) (ET.dft .i64))) (ET.dft .node)).text]:List BA).length)*16≤140737488355328) <|
    gd (qAj (x41_+(1:Int))) <|
    some (.inl ((x41_+(1:Int)),(out++[(r__v.getD (Int.toNat (x39_.getD (Int.toNat x41_) (ET.dft .i64))) (ET.dft .node)).text]))))))
 else (
  some (.inr (.inr out)))
def zbl_p0 (x40_ x41_:Int) (r__v:List Eng.Node) (out:List BA) (x39_:List Int):Option ((Bool × Bool × (List BA)) ⊕ ((List BA))) :=
 qBh (fun x:(Int × (List BA))=>qCz x40_ x.1 r__v x.2 x39_) (x41_,out)
def zbl_s (r_:keyset_reader) (name:BA):Option (keyset_reader × (List BA) × Bool) :=
 (qEv r_.v r_.at_ name).bind fun r11 =>
 bif decide (r11<(0:Int)) then (
  some (r_,[],false))
 else (
  gd (0≤r11∧r11<r_.v.length) <|
  gd ((Int.toNat r11)<r_.v.length) <|
  gd ((Int.toNat r11)<r_.v.length) <|
  bif (!decide (((r_.v.getD (Int.toNat r11) (ET.dft .node)).kind)=(6:Int))) then (
   some ((⟨r_.v,r_.at_,true⟩:keyset_reader),[],false))
  else (
   (zag_s r_.v r11).bind fun r12 =>
   (zbl_p0 (r12.length:Int) (0:Int) r_.v [] r12).bind fun o14=>(Sum.elim (fun (o14_0:Bool × Bool × (List BA)) =>
    some ((⟨r_.v,r_.at_,o14_0.2.1⟩:keyset_reader),o14_0.2.2,o14_0.1)) (fun (o14_1:(List BA)) =>
    some (r_,o14_1,true))) o14))
def zbl_G:Nat→Option CQ:=tblQ [(9,zah_w),(10,zag_w),(33,zbw_w)]
theorem zbl_Gok:∀f C,zbl_G f=some C→qAe Tryd.prog f C:=qAi ⟨zah_ok,zag_ok,zbw_ok,tV⟩
def zbl_d0:=(dQS (qAb (dSO 0 (dH 0 0)) (qAb (dSO 7 (dO 2)) (qAb (dSO 39 (dO 3)) (qAb (dSO 40 dZ) (qAb (dSO 41 dZ) dNil))))) (qAb zDJK3 (qAb (qA9 .node) (qAb (dRow .str 9) (qAb (dRow .i64 3) dNil)))))
def zbl_l0:SubQ:=mkL zbl_d0 (fun x=>zbl_p0 x.1.2.2.2.1 x.1.2.2.2.2.1 x.2.2.1 x.2.2.2.1 x.2.2.2.2.1) fun x r R kn kx kr=>(Sum.elim (fun (r_0:Bool × Bool × (List BA))=>kr ⟨[sL 4 (.own 2),sL 5 (.vB r_0.1)],[],[.cells 71 [.own 1,.vI x.2.1.2.1,.vB r_0.2.1],.view .node x.2.2.1,.row .str 9 r_0.2.2]⟩) (fun (r_1:(List BA))=>kx 0 ⟨[sL 7 (.own 2)],[],[.cells 71 [.own 1,.vI x.2.1.2.1,.vB x.2.1.2.2.1],.view .node x.2.2.1,.row .str 9 r_1]⟩)) r
def zbl_L:Nat→SubQ:=tblL [(0,zbl_l0)]
theorem zbl_sub0:qBr zbl_L zbl_G 2 42 82 0 zbl_b0:=qAu (show zbl_L 0=zbl_l0 from by kernel_rfl) fun x R kn kx kr=>qAs (step:=fun y=>qCz x.1.2.2.2.1 y.1 x.2.2.1 y.2 x.2.2.2.2.1) (enc:=fun (y:Int × (List BA))=>zbl_d0.e ((x.1.1,x.1.2.1,x.1.2.2.1,x.1.2.2.2.1,y.1,x.1.2.2.2.2.2),(x.2.1,x.2.2.1,y.2,x.2.2.2.2))) (fun y=>by kernel_rfl) (fun y ki=>by simp only [qCz,-eq_self,qAd,qAg,obA,obS,slL,slR,qAc]; kernel_rfl) (x.1.2.2.2.2.1,x.2.2.2.1)
theorem zbl_subs:qAo zbl_L zbl_G 2 42 82 zbl_q:=qAk (show qAp zbl_L zbl_G 2 42 82 [(0,zbl_b0)] from ⟨zbl_sub0,tV⟩)
def zbl_da:=(qAb (dVC (dCO (dH 0 0))) (qAb (dVC (dCO dS)) dNil))
def zbl_db:=(qAb zDJK3 (qAb (qA9 .node) dNil))
def zbl_c:CS:=mkC zbl_da zbl_db (fun x y=>zbl_s (⟨y.2.1,y.1.2.1,y.1.2.2.1⟩:keyset_reader) x.2.1) (fun x y r=>.tup [.o (.own 2),.o (.vB r.2.2)]) fun x y r=>[.cells 71 [.own 1,.vI r.1.at_,.vB r.1.bad],.view .node y.2.1,.row .str 9 r.2.1]
theorem zbl_val:qAl Tryd.prog 40 zbl_c:=qAm zbl_chk 42 zbl_Gok 2 (fun x=>Nat.le_of_ble_eq_true rfl) (fun y=>rfl) zbl_subs fun x y=>by
 simp only [zbl_s,-eq_self,qAd,qAg,obA,obS,slL,slR,qAc];kernel_rfl
def zbl_w:CQ:=qBj [(0,some 0,some (.node,34))] (qCk [true,false] zbl_c)
theorem zbl_ok:qAe Tryd.prog 40 zbl_w:=qAr zbl_val
def zbu_q:IQ:=(.seq (rg 2 [oP 2 (.mv (.v (.slice none 0 0)))]) (.seq (.seq (rg 4 [oM 3 t0,oP 4 (.ext (.snil false) [t3])]) (.cond t4 (.seq (rg 2 [oP 2 (.mv (.v (.slice none 0 0)))]) (.cn [2] .ret)) .skip)) (.seq (rg 2 [oP 5 (.bslice 34 6 0 [.int .i64 0,.string ⟨#[]⟩,.string ⟨#[]⟩,.bool false,.int .i64 0,.int .i64 0] []),oM 6 t0,oP 7 (.append 34 6 64 [.int .i64 0,.string ⟨#[]⟩,.string ⟨#[]⟩,.bool false,.int .i64 0,.int .i64 0] t5 t6),oM 2 t7]) (.canon [(2,none,.node,34)] [2] .ret))))
theorem zbu_chk:chk Tryd.prog 26 []=some (zbu_q.erase,[.tmp 2],8):=by kernel_rfl
def zbu_s (s:(List Eng.Node)):Option ((List Eng.Node)) :=
 gd (0<s.length) <|
 gd (([]:List Eng.Node).length+s.length≤9223372036854775807∧(([]:List Eng.Node).length+s.length)*64≤140737488355328) <|
 some ([]++s)
def zbu_G:Nat→Option CQ:=tblQ []
theorem zbu_Gok:∀f C,zbu_G f=some C→qAe Tryd.prog f C:=fun f C h=>by cases h
def zbu_L:Nat→SubQ:=tblL []
theorem zbu_subs:qAo zbu_L zbu_G 1 3 8 zbu_q:=qAk (show qAp zbu_L zbu_G 1 3 8 [] from tV)
def zbu_da:=(qAb (dVC (dCO (dO 0))) dNil)
def zbu_db:=(qAb (qA9 .node) dNil)
def zbu_c:CS:=mkC zbu_da zbu_db (fun x y=>zbu_s y.1) (fun x y r=>.c (.o (.own 1))) fun x y r=>[.view .node y.1,.row .node 34 r]
theorem zbu_val:qAl Tryd.prog 26 zbu_c:=qAm zbu_chk 3 zbu_Gok 1 (fun x=>Nat.le_of_ble_eq_true rfl) (fun y=>rfl) zbu_subs fun x y=>by
 simp only [zbu_s,-eq_self,qAd,qAg,obA,obS,slL,slR,qAc];kernel_rfl
def zbu_w:CQ:=nestQ (qBj [(0,none,some (.node,34))] (qCk [false] zbu_c))
theorem zbu_ok:qAe Tryd.prog 26 zbu_w:=(fun h=>qCv (prep_nat (liftG_nat h.1)) (qAr h)) zbu_val
def zbi_q:IQ:=(.seq (rg 5 [oP 4 (.alloc 41 [.slice none 0 0,.int .i64 0,.string ⟨#[]⟩,.bool false,.string ⟨#[]⟩,.bool false,.string ⟨#[]⟩,.bool false,.slice none 0 0,.bool false]),oP 5 (.mv vF)]) (.seq (rg 6 [oM 10 t0,oM 11 t1,oP 12 (.build [.slice none 0 0,.int .i64 0,.bool false] [(0,1,t10),(1,1,t11)]),oP 13 (.box 71 3 t12),oM 6 t13]) (.seq (.seq (rg 19 [oM 14 t0,oM 15 t1,oP 16 (.iaddr 6 t14 t15),oP 17 (.faddr 0 t16),oP 18 (.load none t17),oP 19 (.bi .neq t18 (vI 7))]) (.cond t19 (.seq (rg 5 [oP 20 (.build [.slice none 0 0,.int .i64 0,.string ⟨#[]⟩,.bool false,.string ⟨#[]⟩,.bool false,.string ⟨#[]⟩,.bool false,.slice none 0 0,.bool false] []),oN (.store 10 t4 t20),oP 5 (.mv vF)]) (.canon [(4,some 0,.node,34),(4,some 8,.str,9)] [4,5] .ret)) .skip)) (.seq (rg 8 [oM 22 t6,oP 23 (.call 31 [t22,(.v (.string ⟨#[107,116,121]⟩))]),oM 21 t23,oP 24 (.extract t21 0),oP 25 (.extract t21 1),oM 7 t24,oM 8 t25]) (.seq (.seq (rg 27 [oM 26 t8,oP 27 (.un .not t26)]) (.cond t27 (.seq (rg 5 [oP 28 (.build [.slice none 0 0,.int .i64 0,.string ⟨#[]⟩,.bool false,.string ⟨#[]⟩,.bool false,.string ⟨#[]⟩,.bool false,.slice none 0 0,.bool false] []),oN (.store 10 t4 t28),oP 5 (.mv vF)]) (.canon [(4,some 0,.node,34),(4,some 8,.str,9)] [4,5] .ret)) .skip)) (.seq (rg 0 [oM 29 t7,oP 30 (.call 39 [t29]),oP 31 (.build [.slice none 0 0,.int .i64 0,.string ⟨#[]⟩,.bool false,.string ⟨#[]⟩,.bool false,.string ⟨#[]⟩,.bool false,.slice none 0 0,.bool false] [(1,1,t30)]),oP 9 (.alloc 41 [.slice none 0 0,.int .i64 0,.string ⟨#[]⟩,.bool false,.string ⟨#[]⟩,.bool false,.string ⟨#[]⟩,.bool false,.slice none 0 0,.bool false]),oN (.store 10 t9 t31)]) (.seq (rg 0 [oM 33 t6,oP 34 (.call 31 [t33,(.v (.string ⟨#[107,105,100]⟩))]),oM 32 t34,oP 35 (.extract t32 0),oP 36 (.extract t32 1),oP 37 (.faddr 2 t9),oN (.store 1 t37 t35),oP 38 (.faddr 3 t9),oN (.store 1 t38 t36)]) (.seq (rg 0 [oM 40 t6,oP 41 (.call 31 [t40,(.v (.string ⟨#[117,115,101]⟩))]),oM 39 t41,oP 42 (.extract t39 0),oP 43 (.extract t39 1),oP 44 (.faddr 4 t9),oN (.store 1 t44 t42),oP 45 (.faddr 5 t9),oN (.store 1 t45 t43)]) (.seq (rg 0 [oM 47 t6,oP 48 (.call 31 [t47,(.v (.string ⟨#[97,108,103]⟩))]),oM 46 t48,oP 49 (.extract t46 0),oP 50 (.extract t46 1),oP 51 (.faddr 6 t9),oN (.store 1 t51 t49),oP 52 (.faddr 7 t9),oN (.store 1 t52 t50)]) (.seq (rg 0 [oM 54 t6,oP 55 (.call 40 [t54,(.v (.string ⟨#[107,101,121,95,111,112,115]⟩))]),oM 53 t55,oP 56 (.extract t53 0),oP 57 (.extract t53 1),oP 58 (.faddr 8 t9),oN (.store 1 t58 t56),oP 59 (.faddr 9 t9),oN (.store 1 t59 t57)]) (.seq (.seq (rg 63 (rF 60 t6 2)) (.cond t63 (.seq (rg 5 [oP 64 (.build [.slice none 0 0,.int .i64 0,.string ⟨#[]⟩,.bool false,.string ⟨#[]⟩,.bool false,.string ⟨#[]⟩,.bool false,.slice none 0 0,.bool false] []),oN (.store 10 t4 t64),oP 5 (.mv vF)]) (.canon [(4,some 0,.node,34),(4,some 8,.str,9)] [4,5] .ret)) .skip)) (.seq (rg 0 [oM 65 t0,oM 66 t1,oM 67 t0,oM 68 t1,oP 69 (.call 14 [t67,t68]),oP 70 (.sub (some 6) t65 (some t66) (some t69)),oP 71 (.call 26 [t70]),oP 72 (.faddr 0 t9),oN (.store 1 t72 t71)]) (.seq (rg 0 [oP 73 (.faddr 0 t9),oP 74 (.load none t73),oP 75 (.iaddr 6 t74 (vI 0)),oP 76 (.faddr 1 t75),oN (.store 1 t76 (.v (.string ⟨#[]⟩)))]) (.seq (rg 5 [oP 77 (.load (some 10) t9),oN (.store 10 t4 t77),oP 5 (.mv vT)]) (.canon [(4,some 0,.node,34),(4,some 8,.str,9)] [4,5] .ret)))))))))))))))
theorem zbi_chk:chk Tryd.prog 23 []=some (zbi_q.erase,[.cell 4 (some 10),.tmp 5],78):=by kernel_rfl
def zbi_s (v:(List Eng.Node)) (at_:Int):Option (qGc × Bool) :=
 gd (0≤at_∧at_<v.length) <|
 gd ((Int.toNat at_)<v.length) <|
 gd ((Int.toNat at_)<v.length) <|
 bif (!decide (((v.getD (Int.toNat at_) (ET.dft .node)).kind)=(7:Int))) then (
  some ((⟨[],(0:Int),(⟨#[]⟩:BA),false,(⟨#[]⟩:BA),false,(⟨#[]⟩:BA),false,[],false⟩:qGc),false))
 else (
  (zbk_s (⟨v,at_,false⟩:keyset_reader) (⟨#[107,116,121]⟩:BA)).bind fun r1 =>
  bif (!r1.2.2) then (
   some ((⟨[],(0:Int),(⟨#[]⟩:BA),false,(⟨#[]⟩:BA),false,(⟨#[]⟩:BA),false,[],false⟩:qGc),false))
  else (
   (zbj_s r1.2.1).bind fun r2 =>
   (zbk_s (⟨v,r1.1.at_,r1.1.bad⟩:keyset_reader) (⟨#[107,105,100]⟩:BA)).bind fun r3 =>
   (zbk_s (⟨v,r3.1.at_,r3.1.bad⟩:keyset_reader) (⟨#[117,115,101]⟩:BA)).bind fun r4 =>
   (zbk_s (⟨v,r4.1.at_,r4.1.bad⟩:keyset_reader) (⟨#[97,108,103]⟩:BA)).bind fun r5 =>
   (zbl_s (⟨v,r5.1.at_,r5.1.bad⟩:keyset_reader) (⟨#[107,101,121,95,111,112,115]⟩:BA)).bind fun r6 =>
   bif r6.1.bad then (
    some ((⟨[],(0:Int),(⟨#[]⟩:BA),false,(⟨#[]⟩:BA),false,(⟨#[]⟩:BA),false,[],false⟩:qGc),false))
   else (
    (zaf_s v at_).bind fun r7 =>
    gd (0≤at_∧at_≤r7∧r7≤v.length) <|
    (zbu_s ((v.take (Int.toNat r7)).drop (Int.toNat at_))).bind fun r8 =>
    gd (0≤(0:Int)∧(0:Int)<r8.length) <|
    gd ((Int.toNat (0:Int))<r8.length) <|
    gd ((Int.toNat (0:Int))<r8.length) <|
    some ((⟨(r8.set (Int.toNat (0:Int)) (⟨(r8.getD (Int.toNat (0:Int)) (ET.dft .node)).kind,(⟨#[]⟩:BA),(r8.getD (Int.toNat (0:Int)) (ET.dft .node)).text,(r8.getD (Int.toNat (0:Int)) (ET.dft .node)).whole,(r8.getD (Int.toNat (0:Int)) (ET.dft .node)).int,(r8.getD (Int.toNat (0:Int)) (ET.dft .node)).kids⟩:Eng.Node)),r2,r3.2.1,r3.2.2,r4.2.1,r4.2.2,r5.2.1,r5.2.2,r6.2.1,r6.2.2⟩:qGc),true))))
def zbi_G:Nat→Option CQ:=tblQ [(31,zbk_w),(39,zbj_w),(40,zbl_w),(14,zaf_w),(26,zbu_w)]
theorem zbi_Gok:∀f C,zbi_G f=some C→qAe Tryd.prog f C:=qAi ⟨zbk_ok,zbj_ok,zbl_ok,zaf_ok,zbu_ok,tV⟩
def zbi_L:Nat→SubQ:=tblL []
theorem zbi_subs:qAo zbi_L zbi_G 1 10 78 zbi_q:=qAk (show qAp zbi_L zbi_G 1 10 78 [] from tV)
def zbi_da:=(qAb (dVC (dCO (dO 0))) (qAb (dVC (dCO dZ)) dNil))
def zbi_db:=(qAb (qA9 .node) dNil)
def zbi_c:CS:=mkC zbi_da zbi_db (fun x y=>zbi_s y.1 x.2.1) (fun x y r=>.tup [.agg [.own 1,.vI r.1.kty,.vS r.1.kid,.vB r.1.hasKid,.vS r.1.use,.vB r.1.hasUse,.vS r.1.alg,.vB r.1.hasAlg,.own 2,.vB r.1.hasOps],.o (.vB r.2)]) fun x y r=>[.view .node y.1,.row .node 34 r.1.value,.row .str 9 r.1.ops]
theorem zbi_val:qAl Tryd.prog 23 zbi_c:=qAm zbi_chk 10 zbi_Gok 1 (fun x=>Nat.le_of_ble_eq_true rfl) (fun y=>rfl) zbi_subs fun x y=>by
 simp only [zbi_s,-eq_self,qAd,qAg,obA,obS,slL,slR,qAc];kernel_rfl
def zbi_w:CQ:=qBj [(0,none,some (.node,34))] (qCk [false] zbi_c)
theorem zbi_ok:qAe Tryd.prog 23 zbi_w:=qAr zbi_val
def zbg_b0:IQ:=(.loop [4,8,39,40,41] (.seq (rg 42 [oP 42 (.bi .lss t41 t40)]) (.seq (.cond t42 .skip (.cn [8] (.exit 0))) (.seq (.block 1 (.seq (rg 10 [oP 43 (.iaddr 1 t39 t41),oP 44 (.load none t43),oM 10 t44]) (.seq (rg 12 [oM 46 t4,oM 47 t10,oP 48 (.call 23 [t46,t47]),oM 45 t48,oP 49 (.extract t45 0),oP 50 (.extract t45 1),oP 11 (.alloc 41 [.slice none 0 0,.int .i64 0,.string ⟨#[]⟩,.bool false,.string ⟨#[]⟩,.bool false,.string ⟨#[]⟩,.bool false,.slice none 0 0,.bool false]),oN (.store 10 t11 t49),oM 12 t50]) (.seq (.seq (rg 52 [oM 51 t12,oP 52 (.un .not t51)]) (.cond t52 (.seq (rg 3 [oP 2 (.mv (.v (.slice none 0 0))),oP 3 (.mv (vI 100))]) (.canon [(2,none,(.bag [.rw .node,.int .i64,.str,.bool,.str,.bool,.str,.bool,.rw .str,.bool]),41)] [2,3] .ret)) .skip)) (rg 8 [oM 53 t8,oP 54 (.load (some 10) t11),oP 55 (.bslice 41 10 1 [.slice none 0 0,.int .i64 0,.string ⟨#[]⟩,.bool false,.string ⟨#[]⟩,.bool false,.string ⟨#[]⟩,.bool false,.slice none 0 0,.bool false] [(0,t54)]),oP 56 (.append 41 10 136 [.slice none 0 0,.int .i64 0,.string ⟨#[]⟩,.bool false,.string ⟨#[]⟩,.bool false,.string ⟨#[]⟩,.bool false,.slice none 0 0,.bool false] t53 t55),oM 8 t56]))))) (rg 41 [oP 57 (.bi .add t41 (vI 1)),oM 41 t57])))))
def zbg_q:IQ:=(.seq (rg 3 [oP 2 (.mv (.v (.slice none 0 0))),oP 3 (.mv (vI 0))]) (.seq (.seq (rg 15 [oM 13 t0,oP 14 (.lenS t13),oP 15 (.bi .gtr t14 (vI 262144))]) (.cond t15 (.seq (rg 3 [oP 2 (.mv (.v (.slice none 0 0))),oP 3 (.mv (vI 10))]) (.canon [(2,none,(.bag [.rw .node,.int .i64,.str,.bool,.str,.bool,.str,.bool,.rw .str,.bool]),41)] [2,3] .ret)) .skip)) (.seq (rg 6 [oM 17 t0,oP 18 (.call 8 [t17]),oM 16 t18,oP 19 (.extract t16 0),oP 20 (.extract t16 1),oP 21 (.extract t16 2),oM 4 t19,oM 5 t20,oM 6 t21]) (.seq (.seq (rg 23 [oM 22 t5,oP 23 (.bi .neq t22 (vI 0))]) (.cond t23 (.seq (rg 3 [oM 24 t5,oP 2 (.mv (.v (.slice none 0 0))),oM 3 t24]) (.canon [(2,none,(.bag [.rw .node,.int .i64,.str,.bool,.str,.bool,.str,.bool,.rw .str,.bool]),41)] [2,3] .ret)) .skip)) (.seq (rg 7 [oM 25 t4,oP 26 (.call 9 [t25,(vI 0),(.v (.string ⟨#[107,101,121,115]⟩))]),oM 7 t26]) (.seq (.seq (rg 36 [oM 27 t7,oP 28 (.bi .lss t27 (vI 0)),oM 29 t28,oE 30 (.mv t4) 29,oE 31 (.mv t7) 29,oE 32 (.iaddr 6 t30 t31) 29,oE 33 (.faddr 0 t32) 29,oE 34 (.load none t33) 29,oE 35 (.bi .neq t34 (vI 6)) 29,oP 36 (.pick t29 vT t35)]) (.cond t36 (.seq (rg 3 [oP 2 (.mv (.v (.slice none 0 0))),oP 3 (.mv (vI 100))]) (.canon [(2,none,(.bag [.rw .node,.int .i64,.str,.bool,.str,.bool,.str,.bool,.rw .str,.bool]),41)] [2,3] .ret)) .skip)) (.seq (rg 8 [oP 8 (.mv (.v (.slice none 0 0)))]) (.seq (.seq (rg 41 [oM 37 t4,oM 38 t7,oP 39 (.call 10 [t37,t38]),oP 40 (.len t39),oP 41 (.mv (vI 0))]) (.block 0 (.canon [(8,none,(.bag [.rw .node,.int .i64,.str,.bool,.str,.bool,.str,.bool,.rw .str,.bool]),41)] [4,8,39,40,41] (.sub 0 zbg_b0)))) (.seq (rg 3 [oM 58 t8,oM 2 t58,oP 3 (.mv (vI 0))]) (.canon [(2,none,(.bag [.rw .node,.int .i64,.str,.bool,.str,.bool,.str,.bool,.rw .str,.bool]),41)] [2,3] .ret))))))))))
theorem zbg_chk:chk Tryd.prog 7 []=some (zbg_q.erase,[.tmp 2,.tmp 3],59):=by kernel_rfl
def qDn (x40_ x41_:Int) (v:List Eng.Node) (out:List ((List Eng.Node) × Int × BA × Bool × BA × Bool × BA × Bool × (List BA) × Bool × Unit)) (x39_:List Int):Option ((Int × (List ((List Eng.Node) × Int × BA × Bool × BA × Bool × BA × Bool × (List BA) × Bool × Unit))) ⊕ ((Int × (List ((List Eng.Node) × Int × BA × Bool × BA × Bool × BA × Bool × (List BA) × Bool × Unit))) ⊕ ((List ((List Eng.Node) × Int × BA × Bool × BA × Bool × BA × Bool × (List BA) × Bool × Unit))))) :=
 bif decide (x41_<x40_) then (
  gd (0≤x41_∧x41_<x39_.length) <|
  gd ((Int.toNat x41_)<x39_.length) <|
  (zbi_s v (x39_.getD (Int.toNat x41_) (ET.dft .i64))).bind fun r16 =>
  bif (!r16.2) then (
   some (.inr (.inl ((100:Int),[]))))
  else (
   gd (out.length+([(r16.1.value,r16.1.kty,r16.1.kid,r16.1.hasKid,r16.1.use,r16.1.hasUse,r16.1.alg,r16.1.hasAlg,r16.1.ops,r16.1.hasOps,())]:List ((List Eng.Node) × Int × BA × Bool × BA × Bool × BA × Bool × (List BA) × Bool × Unit)).length≤9223372036854775807∧(out.length+([(r16.1.value,r16.1.kty,r16.1.kid,r16.1.hasKid,r16.1.use,r16.1.hasUse,r16.1.alg,r16.1.hasAlg,r16.1.ops,r16.1.hasOps,())]:List ((List Eng.Node) × Int × BA × Bool × BA × Bool × BA × Bool × (List BA) × Bool × Unit)).length)*136≤140737488355328) <|
   gd (qAj (x41_+(1:Int))) <|
   some (.inl ((x41_+(1:Int)),(out++[(r16.1.value,r16.1.kty,r16.1.kid,r16.1.hasKid,r16.1.use,r16.1.hasUse,r16.1.alg,r16.1.hasAlg,r16.1.ops,r16.1.hasOps,())])))))
 else (
  some (.inr (.inr out)))
def zbg_p0 (x40_ x41_:Int) (v:List Eng.Node) (out:List ((List Eng.Node) × Int × BA × Bool × BA × Bool × BA × Bool × (List BA) × Bool × Unit)) (x39_:List Int):Option ((Int × (List ((List Eng.Node) × Int × BA × Bool × BA × Bool × BA × Bool × (List BA) × Bool × Unit))) ⊕ ((List ((List Eng.Node) × Int × BA × Bool × BA × Bool × BA × Bool × (List BA) × Bool × Unit)))) :=
 qBh (fun x:(Int × (List ((List Eng.Node) × Int × BA × Bool × BA × Bool × BA × Bool × (List BA) × Bool × Unit)))=>qDn x40_ x.1 v x.2 x39_) (x41_,out)
def zbg_s (doc:BA):Option ((List ((List Eng.Node) × Int × BA × Bool × BA × Bool × BA × Bool × (List BA) × Bool × Unit)) × Int) :=
 bif decide ((262144:Int)<(doc.size:Int)) then (
  some ([],(10:Int)))
 else (
  (zai_s doc).bind fun r13 =>
  bif (!decide (r13.2.1=(0:Int))) then (
   some ([],r13.2.1))
  else (
   (qEv r13.1 (0:Int) (⟨#[107,101,121,115]⟩:BA)).bind fun r14 =>
   gd ((decide (r14<(0:Int)))=false→0≤r14∧r14<r13.1.length) <|
   gd ((decide (r14<(0:Int)))=false→(Int.toNat r14)<r13.1.length) <|
   gd ((decide (r14<(0:Int)))=false→(Int.toNat r14)<r13.1.length) <|
   bif ((decide (r14<(0:Int))) || (!decide (((r13.1.getD (Int.toNat r14) (ET.dft .node)).kind)=(6:Int)))) then (
    some ([],(100:Int)))
   else (
    (zag_s r13.1 r14).bind fun r15 =>
    (zbg_p0 (r15.length:Int) (0:Int) r13.1 [] r15).bind fun o17=>(Sum.elim (fun (o17_0:Int × (List ((List Eng.Node) × Int × BA × Bool × BA × Bool × BA × Bool × (List BA) × Bool × Unit))) =>
     some (o17_0.2,o17_0.1)) (fun (o17_1:(List ((List Eng.Node) × Int × BA × Bool × BA × Bool × BA × Bool × (List BA) × Bool × Unit))) =>
     some (o17_1,(0:Int)))) o17)))
def zbg_G:Nat→Option CQ:=tblQ [(8,zai_w),(9,zah_w),(10,zag_w),(23,zbi_w)]
theorem zbg_Gok:∀f C,zbg_G f=some C→qAe Tryd.prog f C:=qAi ⟨zai_ok,zah_ok,zag_ok,zbi_ok,tV⟩
def zDJK1:=(dBag [.rw .node,.int .i64,.str,.bool,.str,.bool,.str,.bool,.rw .str,.bool] 41)
def zbg_d0:=(dQS (qAb (dSO 4 (dO 0)) (qAb (dSO 8 (dBsl 1)) (qAb (dSO 39 (dO 2)) (qAb (dSO 40 dZ) (qAb (dSO 41 dZ) dNil))))) (qAb (dRow .node 34) (qAb zDJK1 (qAb (dRow .i64 3) dNil))))
def zbg_l0:SubQ:=mkL zbg_d0 (fun x=>zbg_p0 x.1.2.2.2.1 x.1.2.2.2.2.1 x.2.1 x.2.2.1 x.2.2.2.1) fun x r R kn kx kr=>(Sum.elim (fun (r_0:Int × (List ((List Eng.Node) × Int × BA × Bool × BA × Bool × BA × Bool × (List BA) × Bool × Unit)))=>kr ⟨[sL 2 (.bsl 0),sL 3 (.vI r_0.1)],[],[.bag [.rw .node,.int .i64,.str,.bool,.str,.bool,.str,.bool,.rw .str,.bool] 41 r_0.2]⟩) (fun (r_1:(List ((List Eng.Node) × Int × BA × Bool × BA × Bool × BA × Bool × (List BA) × Bool × Unit)))=>kx 0 ⟨[sL 8 (.bsl 0)],[],[.bag [.rw .node,.int .i64,.str,.bool,.str,.bool,.str,.bool,.rw .str,.bool] 41 r_1]⟩)) r
def zbg_L:Nat→SubQ:=tblL [(0,zbg_l0)]
theorem zbg_sub0:qBr zbg_L zbg_G 0 42 59 0 zbg_b0:=qAu (show zbg_L 0=zbg_l0 from by kernel_rfl) fun x R kn kx kr=>qAs (step:=fun y=>qDn x.1.2.2.2.1 y.1 x.2.1 y.2 x.2.2.2.1) (enc:=fun (y:Int × (List ((List Eng.Node) × Int × BA × Bool × BA × Bool × BA × Bool × (List BA) × Bool × Unit)))=>zbg_d0.e ((x.1.1,x.1.2.1,x.1.2.2.1,x.1.2.2.2.1,y.1,x.1.2.2.2.2.2),(x.2.1,y.2,x.2.2.2))) (fun y=>by kernel_rfl) (fun y ki=>by simp only [qDn,-eq_self,qAd,qAg,obA,obS,slL,slR,qAc]; kernel_rfl) (x.1.2.2.2.2.1,x.2.2.1)
theorem zbg_subs:qAo zbg_L zbg_G 0 42 59 zbg_q:=qAk (show qAp zbg_L zbg_G 0 42 59 [(0,zbg_b0)] from ⟨zbg_sub0,tV⟩)
def zbg_da:=(qAb (dVC (dCO dS)) dNil)
def zbg_db:=(dNil:Dec Unit (List SB))
def zbg_c:CS:=mkC zbg_da zbg_db (fun x y=>zbg_s x.1) (fun x y r=>.tup [.o (.bsl 0),.o (.vI r.2)]) fun x y r=>[.bag [.rw .node,.int .i64,.str,.bool,.str,.bool,.str,.bool,.rw .str,.bool] 41 r.1]
theorem zbg_val:qAl Tryd.prog 7 zbg_c:=qAm zbg_chk 42 zbg_Gok 0 (fun x=>Nat.le_of_ble_eq_true rfl) (fun y=>rfl) zbg_subs fun x y=>by
 simp only [zbg_s,-eq_self,qAd,qAg,obA,obS,slL,slR,qAc];kernel_rfl
def zbg_w:CQ:=qCk [] zbg_c
theorem zbg_ok:qAe Tryd.prog 7 zbg_w:=liftQ_valid zbg_val
def zbv_q:IQ:=(.seq (rg 2 [oP 2 (.mv (.v (.slice none 0 0)))]) (.seq (.seq (rg 4 [oM 3 t0,oP 4 (.ext (.snil false) [t3])]) (.cond t4 (.seq (rg 2 [oP 2 (.mv (.v (.slice none 0 0)))]) (.cn [2] .ret)) .skip)) (.seq (rg 2 [oP 5 (.bslice 9 1 0 [.string ⟨#[]⟩] []),oM 6 t0,oP 7 (.append 9 1 16 [.string ⟨#[]⟩] t5 t6),oM 2 t7]) (.canon [(2,none,.str,9)] [2] .ret))))
theorem zbv_chk:chk Tryd.prog 27 []=some (zbv_q.erase,[.tmp 2],8):=by kernel_rfl
def zbv_s0 (s:(List BA)):Option ((List BA)) :=
 gd (0<s.length) <|
 gd (([]:List BA).length+s.length≤9223372036854775807∧(([]:List BA).length+s.length)*16≤140737488355328) <|
 some ([]++s)
def zbv_G:Nat→Option CQ:=tblQ []
theorem zbv_Gok:∀f C,zbv_G f=some C→qAe Tryd.prog f C:=fun f C h=>by cases h
def zbv_L:Nat→SubQ:=tblL []
theorem zbv_subs:qAo zbv_L zbv_G 1 3 8 zbv_q:=qAk (show qAp zbv_L zbv_G 1 3 8 [] from tV)
def zbv_da:=(qAb (dVC (dCO (dO 0))) dNil)
def zbv_db:=(qAb (qA9 .str) dNil)
def zbv_c0:CS:=mkC zbv_da zbv_db (fun x y=>zbv_s0 y.1) (fun x y r=>.c (.o (.own 1))) fun x y r=>[.view .str y.1,.row .str 9 r]
theorem zbv_val0:qAl Tryd.prog 27 zbv_c0:=qAm zbv_chk 3 zbv_Gok 1 (fun x=>Nat.le_of_ble_eq_true rfl) (fun y=>rfl) zbv_subs fun x y=>by
 simp only [zbv_s0,-eq_self,qAd,qAg,obA,obS,slL,slR,qAc];kernel_rfl
def zbv_s (s:(List BA)):Option ((List BA)) :=
 gd (([]:(List BA)).length+s.length≤9223372036854775807∧(([]:(List BA)).length+s.length)*16≤140737488355328) (some ([]++s))
def zbv_c:CS:=mkC zbv_da zbv_db (fun x y=>zbv_s y.1) (fun x y r=>.c (.o (.own 1))) fun x y r=>[.view .str y.1,.row .str 9 r]
theorem zbv_val:qAl Tryd.prog 27 zbv_c:=clone_valid (B:=16) zbv_val0 (fun _ _ _=>rfl) (fun _ _ _=>rfl) clone_str
def zbv_w:CQ:=nestQ (qBj [(0,none,some (.str,9))] (qCk [false] zbv_c))
theorem zbv_ok:qAe Tryd.prog 27 zbv_w:=(fun h=>qCv (prep_nat (liftG_nat h.1)) (qAr h)) zbv_val
def zbf_b0:IQ:=(.loop [0,1,4,6,10,11,12] (.seq (rg 13 [oP 13 (.bi .lss t12 t11)]) (.seq (.cond t13 .skip (.cn [0,4,6] (.exit 0))) (.seq (.block 1 (.seq (rg 0 [oM 14 t12,oP 15 (.iaddr 10 t10 t12),oP 16 (.load (some 10) t15),oP 8 (.alloc 41 [.slice none 0 0,.int .i64 0,.string ⟨#[]⟩,.bool false,.string ⟨#[]⟩,.bool false,.string ⟨#[]⟩,.bool false,.slice none 0 0,.bool false]),oM 7 t14,oN (.store 10 t8 t16)]) (.seq (.seq (rg 25 [oP 17 (.faddr 3 t8),oP 18 (.load none t17),oP 19 (.un .not t18),oM 20 t19,oE 21 (.faddr 2 t8) 20,oE 22 (.load none t21) 20,oE 23 (.mv t1) 20,oE 24 (.bi .neq t22 t23) 20,oP 25 (.pick t20 vT t24)]) (.cond t25 (.exit 1) .skip)) (.seq (.seq (rg 27 [oM 26 t6,oP 27 (.bi .geq t26 (vI 0))]) (.cond t27 (.seq (rg 5 [oP 28 (.build [.slice none 0 0,.int .i64 0,.string ⟨#[]⟩,.bool false,.string ⟨#[]⟩,.bool false,.string ⟨#[]⟩,.bool false,.slice none 0 0,.bool false] []),oN (.store 10 t4 t28),oP 5 (.mv (vI 104))]) (.canon [(4,some 0,.node,34),(4,some 8,.str,9)] [4,5] .ret)) .skip)) (rg 6 [oM 29 t7,oM 6 t29]))))) (rg 12 [oP 30 (.bi .add t12 (vI 1)),oM 12 t30])))))
def zbf_q:IQ:=(.seq (rg 5 [oP 4 (.alloc 41 [.slice none 0 0,.int .i64 0,.string ⟨#[]⟩,.bool false,.string ⟨#[]⟩,.bool false,.string ⟨#[]⟩,.bool false,.slice none 0 0,.bool false]),oP 5 (.mv (vI 0))]) (.seq (rg 6 [oP 6 (.mv (.v (.int .i64 (-1))))]) (.seq (.seq (rg 12 [oM 10 t0,oP 11 (.len t10),oP 12 (.mv (vI 0))]) (.block 0 (.cn [0,1,4,6,10,11,12] (.sub 0 zbf_b0)))) (.seq (.seq (rg 32 [oM 31 t6,oP 32 (.bi .lss t31 (vI 0))]) (.cond t32 (.seq (rg 5 [oP 33 (.build [.slice none 0 0,.int .i64 0,.string ⟨#[]⟩,.bool false,.string ⟨#[]⟩,.bool false,.string ⟨#[]⟩,.bool false,.slice none 0 0,.bool false] []),oN (.store 10 t4 t33),oP 5 (.mv (vI 103))]) (.canon [(4,some 0,.node,34),(4,some 8,.str,9)] [4,5] .ret)) .skip)) (.seq (rg 0 [oM 34 t0,oM 35 t6,oP 36 (.iaddr 10 t34 t35),oP 37 (.load (some 10) t36),oP 9 (.alloc 41 [.slice none 0 0,.int .i64 0,.string ⟨#[]⟩,.bool false,.string ⟨#[]⟩,.bool false,.string ⟨#[]⟩,.bool false,.slice none 0 0,.bool false]),oN (.store 10 t9 t37)]) (.seq (.reg 0 (some [0,1,3,4,2,6,5,7,8,9]) [oP 38 (.faddr 0 t9),oP 39 (.load none t38),oP 41 (.faddr 8 t9),oP 42 (.load none t41),oP 40 (.call 26 [t39]),oP 44 (.faddr 0 t9),oP 43 (.call 27 [t42]),oN (.store 1 t44 t40),oP 45 (.faddr 8 t9),oN (.store 1 t45 t43)]) (.seq (rg 5 [oP 46 (.load (some 10) t9),oN (.store 10 t4 t46),oP 5 (.mv (vI 0))]) (.canon [(4,some 0,.node,34),(4,some 8,.str,9)] [4,5] .ret))))))))
theorem zbf_chk:chk Tryd.prog 12 []=some (zbf_q.erase,[.cell 4 (some 10),.tmp 5],47):=by kernel_rfl
def qCy (kid:BA) (found x11_ x12_:Int) (l:List ((List Eng.Node) × Int × BA × Bool × BA × Bool × BA × Bool × (List BA) × Bool × Unit)):Option ((Int × Int) ⊕ ((Int × Int × BA × Bool × BA × Bool × BA × Bool × Bool × (List Eng.Node) × (List BA)) ⊕ Int)) :=
 bif decide (x12_<x11_) then (
  gd (0≤x12_∧x12_<l.length) <|
  gd ((Int.toNat x12_)<l.length) <|
  bif ((!((l.getD (Int.toNat x12_) (NT.dft [.rw .node,.int .i64,.str,.bool,.str,.bool,.str,.bool,.rw .str,.bool])).2.2.2.1)) || (!decide (((l.getD (Int.toNat x12_) (NT.dft [.rw .node,.int .i64,.str,.bool,.str,.bool,.str,.bool,.rw .str,.bool])).2.2.1)=kid))) then (
   gd (qAj (x12_+(1:Int))) <|
   some (.inl (found,(x12_+(1:Int)))))
  else (
   bif decide ((0:Int)≤found) then (
    some (.inr (.inl ((104:Int),(0:Int),(⟨#[]⟩:BA),false,(⟨#[]⟩:BA),false,(⟨#[]⟩:BA),false,false,[],[]))))
   else (
    gd (qAj (x12_+(1:Int))) <|
    some (.inl (x12_,(x12_+(1:Int)))))))
 else (
  some (.inr (.inr found)))
def zbf_p0 (kid:BA) (found x11_ x12_:Int) (l:List ((List Eng.Node) × Int × BA × Bool × BA × Bool × BA × Bool × (List BA) × Bool × Unit)):Option ((Int × Int × BA × Bool × BA × Bool × BA × Bool × Bool × (List Eng.Node) × (List BA)) ⊕ Int) :=
 qBh (fun x:(Int × Int)=>qCy kid x.1 x11_ x.2 l) (found,x12_)
def zbf_s (l:(List ((List Eng.Node) × Int × BA × Bool × BA × Bool × BA × Bool × (List BA) × Bool × Unit))) (kid:BA):Option (qGc × Int) :=
 (zbf_p0 kid (-1:Int) (l.length:Int) (0:Int) l).bind fun o1=>(Sum.elim (fun (o1_0:Int × Int × BA × Bool × BA × Bool × BA × Bool × Bool × (List Eng.Node) × (List BA)) =>
  some ((⟨o1_0.2.2.2.2.2.2.2.2.2.1,o1_0.2.1,o1_0.2.2.1,o1_0.2.2.2.1,o1_0.2.2.2.2.1,o1_0.2.2.2.2.2.1,o1_0.2.2.2.2.2.2.1,o1_0.2.2.2.2.2.2.2.1,o1_0.2.2.2.2.2.2.2.2.2.2,o1_0.2.2.2.2.2.2.2.2.1⟩:qGc),o1_0.1)) (fun (o1_1:Int) =>
  bif decide (o1_1<(0:Int)) then (
   some ((⟨[],(0:Int),(⟨#[]⟩:BA),false,(⟨#[]⟩:BA),false,(⟨#[]⟩:BA),false,[],false⟩:qGc),(103:Int)))
  else (
   gd (0≤o1_1∧o1_1<l.length) <|
   gd ((Int.toNat o1_1)<l.length) <|
   gd ((Int.toNat o1_1)<l.length) <|
   gd ((Int.toNat o1_1)<l.length) <|
   (zbu_s ((l.getD (Int.toNat o1_1) (NT.dft [.rw .node,.int .i64,.str,.bool,.str,.bool,.str,.bool,.rw .str,.bool])).1)).bind fun r2 =>
   gd (([.bag [.rw .node,.int .i64,.str,.bool,.str,.bool,.str,.bool,.rw .str,.bool] 41 l,.cells 41 [.val (.slice none 0 0),.vI (0:Int),.vS (⟨#[]⟩:BA),.vB false,.vS (⟨#[]⟩:BA),.vB false,.vS (⟨#[]⟩:BA),.vB false,.val (.slice none 0 0),.vB false],.cells 41 [.prj 0 (Int.toNat o1_1) 0,.vI ((l.getD (Int.toNat o1_1) (NT.dft [.rw .node,.int .i64,.str,.bool,.str,.bool,.str,.bool,.rw .str,.bool])).2.1),.vS ((l.getD (Int.toNat o1_1) (NT.dft [.rw .node,.int .i64,.str,.bool,.str,.bool,.str,.bool,.rw .str,.bool])).2.2.1),.vB ((l.getD (Int.toNat o1_1) (NT.dft [.rw .node,.int .i64,.str,.bool,.str,.bool,.str,.bool,.rw .str,.bool])).2.2.2.1),.vS ((l.getD (Int.toNat o1_1) (NT.dft [.rw .node,.int .i64,.str,.bool,.str,.bool,.str,.bool,.rw .str,.bool])).2.2.2.2.1),.vB ((l.getD (Int.toNat o1_1) (NT.dft [.rw .node,.int .i64,.str,.bool,.str,.bool,.str,.bool,.rw .str,.bool])).2.2.2.2.2.1),.vS ((l.getD (Int.toNat o1_1) (NT.dft [.rw .node,.int .i64,.str,.bool,.str,.bool,.str,.bool,.rw .str,.bool])).2.2.2.2.2.2.1),.vB ((l.getD (Int.toNat o1_1) (NT.dft [.rw .node,.int .i64,.str,.bool,.str,.bool,.str,.bool,.rw .str,.bool])).2.2.2.2.2.2.2.1),.prj 0 (Int.toNat o1_1) 1,.vB ((l.getD (Int.toNat o1_1) (NT.dft [.rw .node,.int .i64,.str,.bool,.str,.bool,.str,.bool,.rw .str,.bool])).2.2.2.2.2.2.2.2.2.1)]]:List SB)=[.bag [.rw .node,.int .i64,.str,.bool,.str,.bool,.str,.bool,.rw .str,.bool] 41 l,.cells 41 [.val (.slice none 0 0),.vI (0:Int),.vS (⟨#[]⟩:BA),.vB false,.vS (⟨#[]⟩:BA),.vB false,.vS (⟨#[]⟩:BA),.vB false,.val (.slice none 0 0),.vB false],.cells 41 [.prj 0 (Int.toNat o1_1) 0,.vI ((l.getD (Int.toNat o1_1) (NT.dft [.rw .node,.int .i64,.str,.bool,.str,.bool,.str,.bool,.rw .str,.bool])).2.1),.vS ((l.getD (Int.toNat o1_1) (NT.dft [.rw .node,.int .i64,.str,.bool,.str,.bool,.str,.bool,.rw .str,.bool])).2.2.1),.vB ((l.getD (Int.toNat o1_1) (NT.dft [.rw .node,.int .i64,.str,.bool,.str,.bool,.str,.bool,.rw .str,.bool])).2.2.2.1),.vS ((l.getD (Int.toNat o1_1) (NT.dft [.rw .node,.int .i64,.str,.bool,.str,.bool,.str,.bool,.rw .str,.bool])).2.2.2.2.1),.vB ((l.getD (Int.toNat o1_1) (NT.dft [.rw .node,.int .i64,.str,.bool,.str,.bool,.str,.bool,.rw .str,.bool])).2.2.2.2.2.1),.vS ((l.getD (Int.toNat o1_1) (NT.dft [.rw .node,.int .i64,.str,.bool,.str,.bool,.str,.bool,.rw .str,.bool])).2.2.2.2.2.2.1),.vB ((l.getD (Int.toNat o1_1) (NT.dft [.rw .node,.int .i64,.str,.bool,.str,.bool,.str,.bool,.rw .str,.bool])).2.2.2.2.2.2.2.1),.prj 0 (Int.toNat o1_1) 1,.vB ((l.getD (Int.toNat o1_1) (NT.dft [.rw .node,.int .i64,.str,.bool,.str,.bool,.str,.bool,.rw .str,.bool])).2.2.2.2.2.2.2.2.2.1)]]) <|
   gd ((Int.toNat o1_1)<l.length) <|
   gd ((Int.toNat o1_1)<l.length) <|
   (zbv_s ((l.getD (Int.toNat o1_1) (NT.dft [.rw .node,.int .i64,.str,.bool,.str,.bool,.str,.bool,.rw .str,.bool])).2.2.2.2.2.2.2.2.1)).bind fun r3 =>
   gd (([.bag [.rw .node,.int .i64,.str,.bool,.str,.bool,.str,.bool,.rw .str,.bool] 41 l,.cells 41 [.val (.slice none 0 0),.vI (0:Int),.vS (⟨#[]⟩:BA),.vB false,.vS (⟨#[]⟩:BA),.vB false,.vS (⟨#[]⟩:BA),.vB false,.val (.slice none 0 0),.vB false],.cells 41 [.prj 0 (Int.toNat o1_1) 0,.vI ((l.getD (Int.toNat o1_1) (NT.dft [.rw .node,.int .i64,.str,.bool,.str,.bool,.str,.bool,.rw .str,.bool])).2.1),.vS ((l.getD (Int.toNat o1_1) (NT.dft [.rw .node,.int .i64,.str,.bool,.str,.bool,.str,.bool,.rw .str,.bool])).2.2.1),.vB ((l.getD (Int.toNat o1_1) (NT.dft [.rw .node,.int .i64,.str,.bool,.str,.bool,.str,.bool,.rw .str,.bool])).2.2.2.1),.vS ((l.getD (Int.toNat o1_1) (NT.dft [.rw .node,.int .i64,.str,.bool,.str,.bool,.str,.bool,.rw .str,.bool])).2.2.2.2.1),.vB ((l.getD (Int.toNat o1_1) (NT.dft [.rw .node,.int .i64,.str,.bool,.str,.bool,.str,.bool,.rw .str,.bool])).2.2.2.2.2.1),.vS ((l.getD (Int.toNat o1_1) (NT.dft [.rw .node,.int .i64,.str,.bool,.str,.bool,.str,.bool,.rw .str,.bool])).2.2.2.2.2.2.1),.vB ((l.getD (Int.toNat o1_1) (NT.dft [.rw .node,.int .i64,.str,.bool,.str,.bool,.str,.bool,.rw .str,.bool])).2.2.2.2.2.2.2.1),.prj 0 (Int.toNat o1_1) 1,.vB ((l.getD (Int.toNat o1_1) (NT.dft [.rw .node,.int .i64,.str,.bool,.str,.bool,.str,.bool,.rw .str,.bool])).2.2.2.2.2.2.2.2.2.1)],.dead,.row .node 34 r2]:List SB)=[.bag [.rw .node,.int .i64,.str,.bool,.str,.bool,.str,.bool,.rw .str,.bool] 41 l,.cells 41 [.val (.slice none 0 0),.vI (0:Int),.vS (⟨#[]⟩:BA),.vB false,.vS (⟨#[]⟩:BA),.vB false,.vS (⟨#[]⟩:BA),.vB false,.val (.slice none 0 0),.vB false],.cells 41 [.prj 0 (Int.toNat o1_1) 0,.vI ((l.getD (Int.toNat o1_1) (NT.dft [.rw .node,.int .i64,.str,.bool,.str,.bool,.str,.bool,.rw .str,.bool])).2.1),.vS ((l.getD (Int.toNat o1_1) (NT.dft [.rw .node,.int .i64,.str,.bool,.str,.bool,.str,.bool,.rw .str,.bool])).2.2.1),.vB ((l.getD (Int.toNat o1_1) (NT.dft [.rw .node,.int .i64,.str,.bool,.str,.bool,.str,.bool,.rw .str,.bool])).2.2.2.1),.vS ((l.getD (Int.toNat o1_1) (NT.dft [.rw .node,.int .i64,.str,.bool,.str,.bool,.str,.bool,.rw .str,.bool])).2.2.2.2.1),.vB ((l.getD (Int.toNat o1_1) (NT.dft [.rw .node,.int .i64,.str,.bool,.str,.bool,.str,.bool,.rw .str,.bool])).2.2.2.2.2.1),.vS ((l.getD (Int.toNat o1_1) (NT.dft [.rw .node,.int .i64,.str,.bool,.str,.bool,.str,.bool,.rw .str,.bool])).2.2.2.2.2.2.1),.vB ((l.getD (Int.toNat o1_1) (NT.dft [.rw .node,.int .i64,.str,.bool,.str,.bool,.str,.bool,.rw .str,.bool])).2.2.2.2.2.2.2.1),.prj 0 (Int.toNat o1_1) 1,.vB ((l.getD (Int.toNat o1_1) (NT.dft [.rw .node,.int .i64,.str,.bool,.str,.bool,.str,.bool,.rw .str,.bool])).2.2.2.2.2.2.2.2.2.1)],.dead,.row .node 34 r2]) <|
   some ((⟨r2,(l.getD (Int.toNat o1_1) (NT.dft [.rw .node,.int .i64,.str,.bool,.str,.bool,.str,.bool,.rw .str,.bool])).2.1,(l.getD (Int.toNat o1_1) (NT.dft [.rw .node,.int .i64,.str,.bool,.str,.bool,.str,.bool,.rw .str,.bool])).2.2.1,(l.getD (Int.toNat o1_1) (NT.dft [.rw .node,.int .i64,.str,.bool,.str,.bool,.str,.bool,.rw .str,.bool])).2.2.2.1,(l.getD (Int.toNat o1_1) (NT.dft [.rw .node,.int .i64,.str,.bool,.str,.bool,.str,.bool,.rw .str,.bool])).2.2.2.2.1,(l.getD (Int.toNat o1_1) (NT.dft [.rw .node,.int .i64,.str,.bool,.str,.bool,.str,.bool,.rw .str,.bool])).2.2.2.2.2.1,(l.getD (Int.toNat o1_1) (NT.dft [.rw .node,.int .i64,.str,.bool,.str,.bool,.str,.bool,.rw .str,.bool])).2.2.2.2.2.2.1,(l.getD (Int.toNat o1_1) (NT.dft [.rw .node,.int .i64,.str,.bool,.str,.bool,.str,.bool,.rw .str,.bool])).2.2.2.2.2.2.2.1,r3,(l.getD (Int.toNat o1_1) (NT.dft [.rw .node,.int .i64,.str,.bool,.str,.bool,.str,.bool,.rw .str,.bool])).2.2.2.2.2.2.2.2.2.1⟩:qGc),(0:Int))))) o1
def zbf_G:Nat→Option CQ:=tblQ [(26,zbu_w),(27,zbv_w)]
theorem zbf_Gok:∀f C,zbf_G f=some C→qAe Tryd.prog f C:=qAi ⟨zbu_ok,zbv_ok,tV⟩
def zbf_d0:=(dQS (qAb (dSO 0 (dBsl 0)) (qAb (dSO 1 dS) (qAb (dSO 4 (dH 1 0)) (qAb (dSO 6 dZ) (qAb (dSO 10 (dBsl 0)) (qAb (dSO 11 dZ) (qAb (dSO 12 dZ) dNil))))))) (qAb zDJK1 (qAb (dCells 41 (qAb dNS (qAb dZ (qAb dS (qAb dB (qAb dS (qAb dB (qAb dS (qAb dB (qAb dNS (qAb dB dNil))))))))))) dNil)))
def zbf_l0:SubQ:=mkL zbf_d0 (fun x=>zbf_p0 x.1.2.1 x.1.2.2.2.1 x.1.2.2.2.2.2.1 x.1.2.2.2.2.2.2.1 x.2.1) fun x r R kn kx kr=>(Sum.elim (fun (r_0:Int × Int × BA × Bool × BA × Bool × BA × Bool × Bool × (List Eng.Node) × (List BA))=>kr ⟨[sL 4 (.hd 1 0),sL 5 (.vI r_0.1)],[],[.bag [.rw .node,.int .i64,.str,.bool,.str,.bool,.str,.bool,.rw .str,.bool] 41 x.2.1,.cells 41 [.own 2,.vI r_0.2.1,.vS r_0.2.2.1,.vB r_0.2.2.2.1,.vS r_0.2.2.2.2.1,.vB r_0.2.2.2.2.2.1,.vS r_0.2.2.2.2.2.2.1,.vB r_0.2.2.2.2.2.2.2.1,.own 3,.vB r_0.2.2.2.2.2.2.2.2.1],.row .node 34 r_0.2.2.2.2.2.2.2.2.2.1,.row .str 9 r_0.2.2.2.2.2.2.2.2.2.2]⟩) (fun (r_1:Int)=>kx 0 ⟨[sL 0 (.bsl 0),sL 4 (.hd 1 0),sL 6 (.vI r_1)],[],[.bag [.rw .node,.int .i64,.str,.bool,.str,.bool,.str,.bool,.rw .str,.bool] 41 x.2.1,.cells 41 [.val (.slice none 0 0),.vI x.2.2.1.2.1,.vS x.2.2.1.2.2.1,.vB x.2.2.1.2.2.2.1,.vS x.2.2.1.2.2.2.2.1,.vB x.2.2.1.2.2.2.2.2.1,.vS x.2.2.1.2.2.2.2.2.2.1,.vB x.2.2.1.2.2.2.2.2.2.2.1,.val (.slice none 0 0),.vB x.2.2.1.2.2.2.2.2.2.2.2.2.1]]⟩)) r
def zbf_L:Nat→SubQ:=tblL [(0,zbf_l0)]
theorem zbf_sub0:qBr zbf_L zbf_G 1 13 47 0 zbf_b0:=qAu (show zbf_L 0=zbf_l0 from by kernel_rfl) fun x R kn kx kr=>qAs (step:=fun y=>qCy x.1.2.1 y.1 x.1.2.2.2.2.2.1 y.2 x.2.1) (enc:=fun (y:Int × Int)=>zbf_d0.e ((x.1.1,x.1.2.1,x.1.2.2.1,y.1,x.1.2.2.2.2.1,x.1.2.2.2.2.2.1,y.2,x.1.2.2.2.2.2.2.2),x.2)) (fun y=>by kernel_rfl) (fun y ki=>by simp only [qCy,-eq_self,qAd,qAg,obA,obS,slL,slR,qAc]; kernel_rfl) (x.1.2.2.2.1,x.1.2.2.2.2.2.2.1)
theorem zbf_subs:qAo zbf_L zbf_G 1 13 47 zbf_q:=qAk (show qAp zbf_L zbf_G 1 13 47 [(0,zbf_b0)] from ⟨zbf_sub0,tV⟩)
def zbf_da:=(qAb (dVC (dCO (dBsl 0))) (qAb (dVC (dCO dS)) dNil))
def zbf_db:=(qAb zDJK1 dNil)
def zbf_c:CS:=mkC zbf_da zbf_db (fun x y=>zbf_s y.1 x.2.1) (fun x y r=>.tup [.agg [.own 1,.vI r.1.kty,.vS r.1.kid,.vB r.1.hasKid,.vS r.1.use,.vB r.1.hasUse,.vS r.1.alg,.vB r.1.hasAlg,.own 2,.vB r.1.hasOps],.o (.vI r.2)]) fun x y r=>[.bag [.rw .node,.int .i64,.str,.bool,.str,.bool,.str,.bool,.rw .str,.bool] 41 y.1,.row .node 34 r.1.value,.row .str 9 r.1.ops]
theorem zbf_val:qAl Tryd.prog 12 zbf_c:=qAm zbf_chk 13 zbf_Gok 1 (fun x=>Nat.le_of_ble_eq_true rfl) (fun y=>rfl) zbf_subs fun x y=>by
 simp only [zbf_s,-eq_self,qAd,qAg,obA,obS,slL,slR,qAc];kernel_rfl
def zbf_w:CQ:=qBj [(0,none,some ((.bag [.rw .node,.int .i64,.str,.bool,.str,.bool,.str,.bool,.rw .str,.bool]),41))] (qCk [true] zbf_c)
theorem zbf_ok:qAe Tryd.prog 12 zbf_w:=qAr zbf_val
def zbh_b1:IQ:=(.join [] [] (.cond t9 (.seq (rg 3 [oP 2 (.mv (vI 2)),oP 3 (.mv (.v (.string ⟨#[]⟩)))]) (.cn [2,3] .ret)) (.seq (rg 16 [oP 17 (.bi .eql t4 (vI 10)),oM 16 t17]) (.cond t16 (.seq (rg 3 [oP 2 (.mv (vI 3)),oP 3 (.mv (.v (.string ⟨#[80,45,50,53,54]⟩)))]) (.cn [2,3] .ret)) (.seq (rg 18 [oP 19 (.bi .eql t4 (vI 11)),oM 18 t19]) (.cond t18 (.seq (rg 3 [oP 2 (.mv (vI 3)),oP 3 (.mv (.v (.string ⟨#[80,45,51,56,52]⟩)))]) (.cn [2,3] .ret)) (.seq (rg 20 [oP 21 (.bi .eql t4 (vI 12)),oM 20 t21]) (.cond t20 (.seq (rg 3 [oP 2 (.mv (vI 4)),oP 3 (.mv (.v (.string ⟨#[69,100,50,53,53,49,57]⟩)))]) (.cn [2,3] .ret)) .skip))))))))
def zbh_b0:IQ:=(.join [] [] (.cond t5 (.seq (rg 3 [oP 2 (.mv (vI 1)),oP 3 (.mv (.v (.string ⟨#[]⟩)))]) (.cn [2,3] .ret)) (.seq (.seq (rg 9 [oP 10 (.bi .eql t4 (vI 4)),oM 9 t10]) (.cond t9 .skip (.seq (rg 9 [oP 11 (.bi .eql t4 (vI 5)),oM 9 t11]) (.cond t9 .skip (.seq (rg 9 [oP 12 (.bi .eql t4 (vI 6)),oM 9 t12]) (.cond t9 .skip (.seq (rg 9 [oP 13 (.bi .eql t4 (vI 7)),oM 9 t13]) (.cond t9 .skip (.seq (rg 9 [oP 14 (.bi .eql t4 (vI 8)),oM 9 t14]) (.cond t9 .skip (rg 9 [oP 15 (.bi .eql t4 (vI 9)),oM 9 t15]))))))))))) (.cn [4,9] (.sub 1 zbh_b1)))))
def zbh_q:IQ:=(.seq (rg 3 [oP 2 (.mv (vI 0)),oP 3 (.mv (.v (.string ⟨#[]⟩)))]) (.seq (.seq (rg 4 [oM 4 t0]) (.block 0 (.seq (.seq (rg 5 [oP 6 (.bi .eql t4 (vI 1)),oM 5 t6]) (.cond t5 .skip (.seq (rg 5 [oP 7 (.bi .eql t4 (vI 2)),oM 5 t7]) (.cond t5 .skip (rg 5 [oP 8 (.bi .eql t4 (vI 3)),oM 5 t8]))))) (.cn [4,5] (.sub 0 zbh_b0))))) (.seq (rg 3 [oP 2 (.mv (vI 0)),oP 3 (.mv (.v (.string ⟨#[]⟩)))]) (.cn [2,3] .ret))))
theorem zbh_chk:chk Tryd.prog 30 []=some (zbh_q.erase,[.tmp 2,.tmp 3],22):=by kernel_rfl
def zbh_p1 (x4_:Int) (x9_:Bool):Option ((Int × BA) ⊕ Unit) :=
 bif x9_ then (
  some (.inl ((2:Int),(⟨#[]⟩:BA))))
 else (
  bif decide (x4_=(10:Int)) then (
   some (.inl ((3:Int),(⟨#[80,45,50,53,54]⟩:BA))))
  else (
   bif decide (x4_=(11:Int)) then (
    some (.inl ((3:Int),(⟨#[80,45,51,56,52]⟩:BA))))
   else (
    bif decide (x4_=(12:Int)) then (
     some (.inl ((4:Int),(⟨#[69,100,50,53,53,49,57]⟩:BA))))
    else (
     some (.inr ())))))
def zbh_p0 (x4_:Int) (x5_:Bool):Option ((Int × BA) ⊕ Unit) :=
 bif x5_ then (
  some (.inl ((1:Int),(⟨#[]⟩:BA))))
 else (
  bif decide (x4_=(4:Int)) then (
   (zbh_p1 x4_ (decide (x4_=(4:Int)))).bind fun o1=>(Sum.elim (fun (o1_0:Int × BA) =>
    some (.inl (o1_0.1,o1_0.2))) (fun (o1_1:Unit) =>
    some (.inr ()))) o1)
  else (
   bif decide (x4_=(5:Int)) then (
    (zbh_p1 x4_ (decide (x4_=(5:Int)))).bind fun o2=>(Sum.elim (fun (o2_0:Int × BA) =>
     some (.inl (o2_0.1,o2_0.2))) (fun (o2_1:Unit) =>
     some (.inr ()))) o2)
   else (
    bif decide (x4_=(6:Int)) then (
     (zbh_p1 x4_ (decide (x4_=(6:Int)))).bind fun o3=>(Sum.elim (fun (o3_0:Int × BA) =>
      some (.inl (o3_0.1,o3_0.2))) (fun (o3_1:Unit) =>
      some (.inr ()))) o3)
    else (
     bif decide (x4_=(7:Int)) then (
      (zbh_p1 x4_ (decide (x4_=(7:Int)))).bind fun o4=>(Sum.elim (fun (o4_0:Int × BA) =>
       some (.inl (o4_0.1,o4_0.2))) (fun (o4_1:Unit) =>
       some (.inr ()))) o4)
     else (
      bif decide (x4_=(8:Int)) then (
       (zbh_p1 x4_ (decide (x4_=(8:Int)))).bind fun o5=>(Sum.elim (fun (o5_0:Int × BA) =>
        some (.inl (o5_0.1,o5_0.2))) (fun (o5_1:Unit) =>
        some (.inr ()))) o5)
      else (
       (zbh_p1 x4_ (decide (x4_=(9:Int)))).bind fun o6=>(Sum.elim (fun (o6_0:Int × BA) =>
        some (.inl (o6_0.1,o6_0.2))) (fun (o6_1:Unit) =>
        some (.inr ()))) o6))))))
def zbh_s (a:Int):Option (Int × BA) :=
 bif decide (a=(1:Int)) then (
  (zbh_p0 a (decide (a=(1:Int)))).bind fun o7=>(Sum.elim (fun (o7_0:Int × BA) =>
   some (o7_0.1,o7_0.2)) (fun (o7_1:Unit) =>
   some ((0:Int),(⟨#[]⟩:BA)))) o7)
 else (
  bif decide (a=(2:Int)) then (
   (zbh_p0 a (decide (a=(2:Int)))).bind fun o8=>(Sum.elim (fun (o8_0:Int × BA) =>
    some (o8_0.1,o8_0.2)) (fun (o8_1:Unit) =>
    some ((0:Int),(⟨#[]⟩:BA)))) o8)
  else (
   (zbh_p0 a (decide (a=(3:Int)))).bind fun o9=>(Sum.elim (fun (o9_0:Int × BA) =>
    some (o9_0.1,o9_0.2)) (fun (o9_1:Unit) =>
    some ((0:Int),(⟨#[]⟩:BA)))) o9))
def zbh_G:Nat→Option CQ:=tblQ []
theorem zbh_Gok:∀f C,zbh_G f=some C→qAe Tryd.prog f C:=fun f C h=>by cases h
def zbh_d1:=(dQS (qAb (dSO 4 dZ) (qAb (dSO 9 dB) dNil)) dNil)
def zbh_l1:SubQ:=mkL zbh_d1 (fun x=>zbh_p1 x.1.1 x.1.2.1) fun x r R kn kx kr=>(Sum.elim (fun (r_0:Int × BA)=>kr ⟨[sL 2 (.vI r_0.1),sL 3 (.vS r_0.2)],[],[]⟩) (fun (r_1:Unit)=>kn ⟨[],[],[]⟩)) r
def zbh_d0:=(dQS (qAb (dSO 4 dZ) (qAb (dSO 5 dB) dNil)) dNil)
def zbh_l0:SubQ:=mkL zbh_d0 (fun x=>zbh_p0 x.1.1 x.1.2.1) fun x r R kn kx kr=>(Sum.elim (fun (r_0:Int × BA)=>kr ⟨[sL 2 (.vI r_0.1),sL 3 (.vS r_0.2)],[],[]⟩) (fun (r_1:Unit)=>kn ⟨[],[],[]⟩)) r
def zbh_L:Nat→SubQ:=tblL [(1,zbh_l1),(0,zbh_l0)]
theorem zbh_sub1:qBr zbh_L zbh_G 0 5 22 1 zbh_b1:=qAu (show zbh_L 1=zbh_l1 from by kernel_rfl) fun x R kn kx kr=>by
 simp only [zbh_p1,-eq_self,qAd,qAg,obA,obS,slL,slR,qAc];kernel_rfl
theorem zbh_sub0:qBr zbh_L zbh_G 0 5 22 0 zbh_b0:=qAu (show zbh_L 0=zbh_l0 from by kernel_rfl) fun x R kn kx kr=>by
 simp only [zbh_p0,-eq_self,qAd,qAg,obA,obS,slL,slR,qAc];kernel_rfl
theorem zbh_subs:qAo zbh_L zbh_G 0 5 22 zbh_q:=qAk (show qAp zbh_L zbh_G 0 5 22 [(0,zbh_b0),(1,zbh_b1)] from ⟨zbh_sub0,zbh_sub1,tV⟩)
def zbh_da:=(qAb (dVC (dCO dZ)) dNil)
def zbh_db:=(dNil:Dec Unit (List SB))
def zbh_c:CS:=mkC zbh_da zbh_db (fun x y=>zbh_s x.1) (fun x y r=>.tup [.o (.vI r.1),.o (.vS r.2)]) fun x y r=>[]
theorem zbh_val:qAl Tryd.prog 30 zbh_c:=qAm zbh_chk 5 zbh_Gok 0 (fun x=>Nat.le_of_ble_eq_true rfl) (fun y=>rfl) zbh_subs fun x y=>by
 simp only [zbh_s,-eq_self,qAd,qAg,obA,obS,slL,slR,qAc];kernel_rfl
def zbh_w:CQ:=qC3 [] zbh_c
theorem zbh_ok:qAe Tryd.prog 30 zbh_w:=qA2 zbh_val
def zbe_b0:IQ:=(.seq (.seq (.reg 68 (some [0,1,2,3,4,5,6,7,8,9,10,11,12,13,14,15,16,17,18,19,20,21,22,23,24,25,26,27]) [oP 41 (.faddr 5 t2),oP 42 (.load none t41),oM 43 t42,oF 44 (.faddr 4 t2) 43,oF 45 (.load none t44) 43,oF 46 (.bi .neq t45 (.v (.string ⟨#[115,105,103]⟩))) 43,oP 47 (.pick t43 t46 vF),oM 48 t47,oE 49 (.faddr 7 t2) 48,oE 50 (.load none t49) 48,oE 51 (.mv t50) 48,oF 52 (.faddr 6 t2) 51,oF 53 (.load none t52) 51,oF 54 (.mv t1) 51,oF 55 (.call 32 [t54]) 51,oF 56 (.bi .neq t53 t55) 51,oE 57 (.pick t51 t56 vF) 48,oP 58 (.pick t48 vT t57),oM 59 t58,oE 60 (.faddr 9 t2) 59,oE 61 (.load none t60) 59,oE 62 (.mv t61) 59,oF 63 (.faddr 8 t2) 62,oF 64 (.load none t63) 62,oF 65 (.call 33 [t64,(.v (.string ⟨#[118,101,114,105,102,121]⟩))]) 62,oF 66 (.un .not t65) 62,oE 67 (.pick t62 t66 vF) 59,oP 68 (.pick t59 vT t67)]) (.cond t68 (.seq (rg 4 [oP 4 (.mv (vI 105))]) (.cn [4] .ret)) .skip)) (.seq (rg 4 [oP 4 (.mv (vI 0))]) (.cn [4] .ret)))
def zbe_q:IQ:=(.seq (rg 4 [oP 2 (.box 41 10 t0),oP 4 (.mv (vI 0))]) (.seq (rg 6 [oM 11 t1,oP 12 (.call 30 [t11]),oM 10 t12,oP 13 (.extract t10 0),oP 14 (.extract t10 1),oM 5 t13,oM 6 t14]) (.seq (.seq (rg 22 [oM 15 t5,oP 16 (.bi .eql t15 (vI 0)),oM 17 t16,oE 18 (.faddr 1 t2) 17,oE 19 (.load none t18) 17,oE 20 (.mv t5) 17,oE 21 (.bi .neq t19 t20) 17,oP 22 (.pick t17 vT t21)]) (.cond t22 (.seq (rg 4 [oP 4 (.mv (vI 105))]) (.cn [4] .ret)) .skip)) (.seq (.seq (rg 24 [oM 23 t6,oP 24 (.bi .neq t23 (.v (.string ⟨#[]⟩)))]) (.cond t24 (.seq (rg 7 [oP 25 (.faddr 0 t2),oP 26 (.load none t25),oP 27 (.build [.slice none 0 0,.int .i64 0,.bool false] [(0,1,t26)]),oP 28 (.box 71 3 t27),oM 7 t28]) (.seq (rg 9 [oM 30 t7,oP 31 (.call 31 [t30,(.v (.string ⟨#[99,114,118]⟩))]),oM 29 t31,oP 32 (.extract t29 0),oP 33 (.extract t29 1),oM 8 t32,oM 9 t33]) (.seq (rg 40 [oM 34 t9,oP 35 (.un .not t34),oM 36 t35,oE 37 (.mv t8) 36,oE 38 (.mv t6) 36,oE 39 (.bi .neq t37 t38) 36,oP 40 (.pick t36 vT t39)]) (.cond t40 (.seq (rg 4 [oP 4 (.mv (vI 105))]) (.cn [4] .ret)) .skip)))) .skip)) (.cn [1,2] (.sub 0 zbe_b0))))))
theorem zbe_chk:chk Tryd.prog 15 []=some (zbe_q.erase,[.tmp 4],69):=by kernel_rfl
def zbe_p0 (a:Int) (qGn:List BA) (qGo:BA) (qGj:Bool) (qGp:BA) (qGk qGl:Bool):Option Int :=
 (qBb a).bind fun r3 =>
 (zbw_s qGn (⟨#[118,101,114,105,102,121]⟩:BA)).bind fun r4 =>
 bif (((qGj && (!decide (qGo=(⟨#[115,105,103]⟩:BA)))) || (qGk && (!decide (qGp=r3)))) || (qGl && (!r4))) then (
  some (105:Int))
 else (
  some (0:Int))
def zbe_s (x_:qGc) (a:Int):Option Int :=
 (zbh_s a).bind fun r1 =>
 bif ((decide (r1.1=(0:Int))) || (!decide (x_.kty=r1.1))) then (
  some (105:Int))
 else (
  bif (!decide (r1.2=(⟨#[]⟩:BA))) then (
   (zbk_s (⟨x_.value,(0:Int),false⟩:keyset_reader) (⟨#[99,114,118]⟩:BA)).bind fun r2 =>
   bif ((!r2.2.2) || (!decide (r2.2.1=r1.2))) then (
    some (105:Int))
   else (
    (zbe_p0 a x_.ops x_.use x_.hasUse x_.alg x_.hasAlg x_.hasOps).bind fun o5 =>
    some o5))
  else (
   (zbe_p0 a x_.ops x_.use x_.hasUse x_.alg x_.hasAlg x_.hasOps).bind fun o6 =>
   some o6))
def zbe_G:Nat→Option CQ:=tblQ [(30,zbh_w),(31,zbk_w),(32,keyset_Name_w),(33,zbw_w)]
theorem zbe_Gok:∀f C,zbe_G f=some C→qAe Tryd.prog f C:=qAi ⟨zbh_ok,zbk_ok,keyset_Name_ok,zbw_ok,tV⟩
def zDJK2:=(qAb (dO 0) (qAb dZ (qAb dS (qAb dB (qAb dS (qAb dB (qAb dS (qAb dB (qAb (dO 1) (qAb dB dNil))))))))))
def zbe_d0:=(dQS (qAb (dSO 1 dZ) (qAb (dSO 2 (dH 2 0)) dNil)) (qAb (qA9 .node) (qAb (qA9 .str) (qAb (dCells 41 zDJK2) dNil))))
def zbe_l0:SubQ:=mkL zbe_d0 (fun x=>zbe_p0 x.1.1 x.2.2.1 x.2.2.2.1.2.2.2.2.1 x.2.2.2.1.2.2.2.2.2.1 x.2.2.2.1.2.2.2.2.2.2.1 x.2.2.2.1.2.2.2.2.2.2.2.1 x.2.2.2.1.2.2.2.2.2.2.2.2.2.1) fun x r R kn kx kr=>kr ⟨[sL 4 (.vI r)],[],[.view .node x.2.1,.view .str x.2.2.1]⟩
def zbe_L:Nat→SubQ:=tblL [(0,zbe_l0)]
theorem zbe_sub0:qBr zbe_L zbe_G 2 10 69 0 zbe_b0:=qAu (show zbe_L 0=zbe_l0 from by kernel_rfl) fun x R kn kx kr=>by
 simp only [zbe_p0,-eq_self,qAd,qAg,obA,obS,slL,slR,qAc];kernel_rfl
theorem zbe_subs:qAo zbe_L zbe_G 2 10 69 zbe_q:=qAk (show qAp zbe_L zbe_G 2 10 69 [(0,zbe_b0)] from ⟨zbe_sub0,tV⟩)
def zbe_da:=(qAb (dVC (dCA zDJK2)) (qAb (dVC (dCO dZ)) dNil))
def zbe_db:=(qAb (qA9 .node) (qAb (qA9 .str) dNil))
def zbe_c:CS:=mkC zbe_da zbe_db (fun x y=>zbe_s (⟨y.1,x.1.2.1,x.1.2.2.1,x.1.2.2.2.1,x.1.2.2.2.2.1,x.1.2.2.2.2.2.1,x.1.2.2.2.2.2.2.1,x.1.2.2.2.2.2.2.2.1,y.2.1,x.1.2.2.2.2.2.2.2.2.2.1⟩:qGc) x.2.1) (fun x y r=>.c (.o (.vI r))) fun x y r=>[.view .node y.1,.view .str y.2.1]
theorem zbe_val:qAl Tryd.prog 15 zbe_c:=qAm zbe_chk 10 zbe_Gok 2 (fun x=>Nat.le_of_ble_eq_true rfl) (fun y=>rfl) zbe_subs fun x y=>by
 simp only [zbe_s,-eq_self,qAd,qAg,obA,obS,slL,slR,qAc];kernel_rfl
def zbe_w:CQ:=nestQ (qBj [(0,some 0,some (.node,34)),(0,some 8,some (.str,9))] (qC3 [false,false] zbe_c))
theorem zbe_ok:qAe Tryd.prog 15 zbe_w:=(fun h=>qCv (prep_nat (liftH_nat h.1)) (qB0 h)) zbe_val
def zbo_q:IQ:=(.seq (rg 0 [oP 0 (.mv vF)]) (.seq (rg 2 [oP 10 (.call 7 [(.v (.string ⟨#[123,34,107,101,121,115,34,58,91,123,34,107,116,121,34,58,34,111,99,116,34,44,34,107,105,100,34,58,34,97,34,125,44,123,34,107,116,121,34,58,34,69,67,34,44,34,99,114,118,34,58,34,80,45,50,53,54,34,44,34,107,105,100,34,58,34,98,34,44,34,117,115,101,34,58,34,115,105,103,34,125,44,123,34,107,116,121,34,58,34,82,83,65,34,125,93,125]⟩))]),oM 9 t10,oP 11 (.extract t9 0),oP 12 (.extract t9 1),oM 1 t11,oM 2 t12]) (.seq (rg 4 [oM 14 t1,oP 15 (.call 12 [t14,(.v (.string ⟨#[98]⟩))]),oM 13 t15,oP 16 (.extract t13 0),oP 17 (.extract t13 1),oP 3 (.alloc 41 [.slice none 0 0,.int .i64 0,.string ⟨#[]⟩,.bool false,.string ⟨#[]⟩,.bool false,.string ⟨#[]⟩,.bool false,.slice none 0 0,.bool false]),oN (.store 10 t3 t16),oM 4 t17]) (.seq (rg 6 [oM 19 t1,oP 20 (.call 12 [t19,(.v (.string ⟨#[99]⟩))]),oM 18 t20,oP 21 (.extract t18 0),oP 22 (.extract t18 1),oP 5 (.alloc 41 [.slice none 0 0,.int .i64 0,.string ⟨#[]⟩,.bool false,.string ⟨#[]⟩,.bool false,.string ⟨#[]⟩,.bool false,.slice none 0 0,.bool false]),oN (.store 10 t5 t21),oM 6 t22]) (.seq (rg 8 [oP 24 (.call 7 [(.v (.string ⟨#[123,125]⟩))]),oM 23 t24,oP 25 (.extract t23 0),oP 26 (.extract t23 1),oM 7 t25,oM 8 t26]) (.seq (.seq (rg 50 [oM 27 t2,oP 28 (.bi .neq t27 (vI 0)),oM 29 t28,oE 30 (.mv t4) 29,oE 31 (.bi .neq t30 (vI 0)) 29,oP 32 (.pick t29 vT t31),oM 33 t32,oE 34 (.mv t6) 33,oE 35 (.bi .neq t34 (vI 103)) 33,oP 36 (.pick t33 vT t35),oM 37 t36,oE 38 (.mv t8) 37,oE 39 (.bi .neq t38 (vI 100)) 37,oP 40 (.pick t37 vT t39),oM 41 t40,oE 42 (.mv t1) 41,oE 43 (.len t42) 41,oE 44 (.bi .neq t43 (vI 3)) 41,oP 45 (.pick t41 vT t44),oM 46 t45,oE 47 (.faddr 1 t3) 46,oE 48 (.load none t47) 46,oE 49 (.bi .neq t48 (vI 3)) 46,oP 50 (.pick t46 vT t49)]) (.cond t50 (.seq (rg 0 [oP 0 (.mv vF)]) (.cn [0] .ret)) .skip)) (.seq (rg 0 [oP 51 (.load (some 10) t3),oP 52 (.call 15 [t51,(vI 10)]),oP 53 (.bi .eql t52 (vI 0)),oM 54 t53,oF 55 (.load (some 10) t3) 54,oF 56 (.call 15 [t55,(vI 11)]) 54,oF 57 (.bi .eql t56 (vI 105)) 54,oP 58 (.pick t54 t57 vF),oM 59 t58,oF 60 (.mv t1) 59,oF 61 (.iaddr 10 t60 (vI 0)) 59,oF 62 (.load (some 10) t61) 59,oF 63 (.call 15 [t62,(vI 1)]) 59,oF 64 (.bi .eql t63 (vI 0)) 59,oP 65 (.pick t59 t64 vF),oM 66 t65,oF 67 (.mv t1) 66,oF 68 (.iaddr 10 t67 (vI 2)) 66,oF 69 (.load (some 10) t68) 66,oF 70 (.call 15 [t69,(vI 4)]) 66,oF 71 (.bi .eql t70 (vI 0)) 66,oP 72 (.pick t66 t71 vF),oM 0 t72]) (.cn [0] .ret))))))))
theorem zbo_chk:chk Tryd.prog 6 []=some (zbo_q.erase,[.tmp 0],73):=by kernel_rfl
def zbo_s:Option Bool :=
 (zbg_s (⟨#[123,34,107,101,121,115,34,58,91,123,34,107,116,121,34,58,34,111,99,116,34,44,34,107,105,100,34,58,34,97,34,125,44,123,34,107,116,121,34,58,34,69,67,34,44,34,99,114,118,34,58,34,80,45,50,53,54,34,44,34,107,105,100,34,58,34,98,34,44,34,117,115,101,34,58,34,115,105,103,34,125,44,123,34,107,116,121,34,58,34,82,83,65,34,125,93,125]⟩:BA)).bind fun r1 =>
 (zbf_s r1.1 (⟨#[98]⟩:BA)).bind fun r2 =>
 (zbf_s r1.1 (⟨#[99]⟩:BA)).bind fun r3 =>
 (zbg_s (⟨#[123,125]⟩:BA)).bind fun r4 =>
 bif ((((((!decide (r1.2=(0:Int))) || (!decide (r2.2=(0:Int)))) || (!decide (r3.2=(103:Int)))) || (!decide (r4.2=(100:Int)))) || (!decide ((r1.1.length:Int)=(3:Int)))) || (!decide (r2.1.kty=(3:Int)))) then (
  some false)
 else (
  (zbe_s r2.1 (10:Int)).bind fun r5 =>
  bif decide (r5=(0:Int)) then (
   (zbe_s r2.1 (11:Int)).bind fun r6 =>
   gd ((decide (r6=(105:Int)))=true→0≤(0:Int)∧(0:Int)<r1.1.length) <|
   gd ((decide (r6=(105:Int)))=true→(Int.toNat (0:Int))<r1.1.length) <|
   bif decide (r6=(105:Int)) then (
    gd ((Int.toNat (0:Int))<r1.1.length) <|
    gd ((Int.toNat (0:Int))<r1.1.length) <|
    gd ((Int.toNat (0:Int))<r1.1.length) <|
    gd ((Int.toNat (0:Int))<r1.1.length) <|
    (zbe_s (⟨(r1.1.getD (Int.toNat (0:Int)) (NT.dft [.rw .node,.int .i64,.str,.bool,.str,.bool,.str,.bool,.rw .str,.bool])).1,(r1.1.getD (Int.toNat (0:Int)) (NT.dft [.rw .node,.int .i64,.str,.bool,.str,.bool,.str,.bool,.rw .str,.bool])).2.1,(r1.1.getD (Int.toNat (0:Int)) (NT.dft [.rw .node,.int .i64,.str,.bool,.str,.bool,.str,.bool,.rw .str,.bool])).2.2.1,(r1.1.getD (Int.toNat (0:Int)) (NT.dft [.rw .node,.int .i64,.str,.bool,.str,.bool,.str,.bool,.rw .str,.bool])).2.2.2.1,(r1.1.getD (Int.toNat (0:Int)) (NT.dft [.rw .node,.int .i64,.str,.bool,.str,.bool,.str,.bool,.rw .str,.bool])).2.2.2.2.1,(r1.1.getD (Int.toNat (0:Int)) (NT.dft [.rw .node,.int .i64,.str,.bool,.str,.bool,.str,.bool,.rw .str,.bool])).2.2.2.2.2.1,(r1.1.getD (Int.toNat (0:Int)) (NT.dft [.rw .node,.int .i64,.str,.bool,.str,.bool,.str,.bool,.rw .str,.bool])).2.2.2.2.2.2.1,(r1.1.getD (Int.toNat (0:Int)) (NT.dft [.rw .node,.int .i64,.str,.bool,.str,.bool,.str,.bool,.rw .str,.bool])).2.2.2.2.2.2.2.1,(r1.1.getD (Int.toNat (0:Int)) (NT.dft [.rw .node,.int .i64,.str,.bool,.str,.bool,.str,.bool,.rw .str,.bool])).2.2.2.2.2.2.2.2.1,(r1.1.getD (Int.toNat (0:Int)) (NT.dft [.rw .node,.int .i64,.str,.bool,.str,.bool,.str,.bool,.rw .str,.bool])).2.2.2.2.2.2.2.2.2.1⟩:qGc) (1:Int)).bind fun r7 =>
    gd ((decide (r7=(0:Int)))=true→0≤(2:Int)∧(2:Int)<r1.1.length) <|
    gd ((decide (r7=(0:Int)))=true→(Int.toNat (2:Int))<r1.1.length) <|
    bif decide (r7=(0:Int)) then (
     gd ((Int.toNat (2:Int))<r1.1.length) <|
     gd ((Int.toNat (2:Int))<r1.1.length) <|
     gd ((Int.toNat (2:Int))<r1.1.length) <|
     gd ((Int.toNat (2:Int))<r1.1.length) <|
     (zbe_s (⟨(r1.1.getD (Int.toNat (2:Int)) (NT.dft [.rw .node,.int .i64,.str,.bool,.str,.bool,.str,.bool,.rw .str,.bool])).1,(r1.1.getD (Int.toNat (2:Int)) (NT.dft [.rw .node,.int .i64,.str,.bool,.str,.bool,.str,.bool,.rw .str,.bool])).2.1,(r1.1.getD (Int.toNat (2:Int)) (NT.dft [.rw .node,.int .i64,.str,.bool,.str,.bool,.str,.bool,.rw .str,.bool])).2.2.1,(r1.1.getD (Int.toNat (2:Int)) (NT.dft [.rw .node,.int .i64,.str,.bool,.str,.bool,.str,.bool,.rw .str,.bool])).2.2.2.1,(r1.1.getD (Int.toNat (2:Int)) (NT.dft [.rw .node,.int .i64,.str,.bool,.str,.bool,.str,.bool,.rw .str,.bool])).2.2.2.2.1,(r1.1.getD (Int.toNat (2:Int)) (NT.dft [.rw .node,.int .i64,.str,.bool,.str,.bool,.str,.bool,.rw .str,.bool])).2.2.2.2.2.1,(r1.1.getD (Int.toNat (2:Int)) (NT.dft [.rw .node,.int .i64,.str,.bool,.str,.bool,.str,.bool,.rw .str,.bool])).2.2.2.2.2.2.1,(r1.1.getD (Int.toNat (2:Int)) (NT.dft [.rw .node,.int .i64,.str,.bool,.str,.bool,.str,.bool,.rw .str,.bool])).2.2.2.2.2.2.2.1,(r1.1.getD (Int.toNat (2:Int)) (NT.dft [.rw .node,.int .i64,.str,.bool,.str,.bool,.str,.bool,.rw .str,.bool])).2.2.2.2.2.2.2.2.1,(r1.1.getD (Int.toNat (2:Int)) (NT.dft [.rw .node,.int .i64,.str,.bool,.str,.bool,.str,.bool,.rw .str,.bool])).2.2.2.2.2.2.2.2.2.1⟩:qGc) (4:Int)).bind fun r8 =>
     some (decide (r8=(0:Int))))
    else (
     some false))
   else (
    gd (false=true→0≤(2:Int)∧(2:Int)<r1.1.length) <|
    gd (false=true→(Int.toNat (2:Int))<r1.1.length) <|
    some false))
  else (
   gd (false=true→0≤(0:Int)∧(0:Int)<r1.1.length) <|
   gd (false=true→(Int.toNat (0:Int))<r1.1.length) <|
   gd (false=true→0≤(2:Int)∧(2:Int)<r1.1.length) <|
   gd (false=true→(Int.toNat (2:Int))<r1.1.length) <|
   some false))
def zbo_G:Nat→Option CQ:=tblQ [(7,zbg_w),(12,zbf_w),(15,zbe_w)]
theorem zbo_Gok:∀f C,zbo_G f=some C→qAe Tryd.prog f C:=qAi ⟨zbg_ok,zbf_ok,zbe_ok,tV⟩
def zbo_L:Nat→SubQ:=tblL []
theorem zbo_subs:qAo zbo_L zbo_G 0 9 73 zbo_q:=qAk (show qAp zbo_L zbo_G 0 9 73 [] from tV)
def zbo_da:=(dNil:Dec Unit (List SV))
def zbo_db:=(dNil:Dec Unit (List SB))
def zbo_c:CS:=mkC zbo_da zbo_db (fun x y=>zbo_s) (fun x y r=>.c (.o (.vB r))) fun x y r=>[]
theorem zbo_val:qAl Tryd.prog 6 zbo_c:=qAm zbo_chk 9 zbo_Gok 0 (fun x=>Nat.le_of_ble_eq_true rfl) (fun y=>rfl) zbo_subs fun x y=>by
 simp only [zbo_s,-eq_self,qAd,qAg,obA,obS,slL,slR,qAc];kernel_rfl
def zbo_w:CQ:=qC3 [] zbo_c
theorem zbo_ok:qAe Tryd.prog 6 zbo_w:=qA2 zbo_val
def zbt_b0:IQ:=(.loop [0,1,5] (.seq (.seq (rg 14 [oM 11 t5,oM 12 t0,oP 13 (.len t12),oP 14 (.bi .lss t11 t13)]) (.cond t14 .skip (.cn [] (.exit 0)))) (.seq (.block 1 (.seq (.reg 25 (some [0,1,2,3,4,5,6,7,8]) [oM 17 t0,oM 18 t5,oP 19 (.iaddr 1 t17 t18),oP 20 (.load none t19),oM 21 t1,oM 22 t5,oP 23 (.iaddr 1 t21 t22),oP 24 (.load none t23),oP 25 (.bi .neq t20 t24)]) (.cond t25 (.seq (rg 4 [oP 4 (.mv vF)]) (.cn [4] .ret)) .skip))) (rg 5 [oM 15 t5,oP 16 (.bi .add t15 (vI 1)),oM 5 t16]))))
def zbt_q:IQ:=(.seq (rg 4 [oP 4 (.mv vF)]) (.seq (.seq (rg 10 [oM 6 t0,oP 7 (.len t6),oM 8 t1,oP 9 (.len t8),oP 10 (.bi .neq t7 t9)]) (.cond t10 (.seq (rg 4 [oP 4 (.mv vF)]) (.cn [4] .ret)) .skip)) (.seq (.seq (rg 5 [oP 5 (.mv (vI 0))]) (.block 0 (.cn [0,1,5] (.sub 0 zbt_b0)))) (.seq (rg 4 [oP 4 (.mv vT)]) (.cn [4] .ret)))))
theorem zbt_chk:chk Tryd.prog 28 []=some (zbt_q.erase,[.tmp 4],26):=by kernel_rfl
def qEq (i:Int) (a b:List BA):Option (Int ⊕ (Bool ⊕ Unit)) :=
 bif decide (i<(a.length:Int)) then (
  gd (0≤i∧i<a.length) <|
  gd ((Int.toNat i)<a.length) <|
  gd (0≤i∧i<b.length) <|
  gd ((Int.toNat i)<b.length) <|
  bif (!decide ((a.getD (Int.toNat i) (ET.dft .str))=(b.getD (Int.toNat i) (ET.dft .str)))) then (
   some (.inr (.inl false)))
  else (
   gd (qAj (i+(1:Int))) <|
   some (.inl (i+(1:Int)))))
 else (
  some (.inr (.inr ())))
def zbt_p0 (i:Int) (a b:List BA):Option (Bool ⊕ Unit) :=
 qBh (fun x:Int=>qEq x a b) i
def zbt_s (a b:(List BA)):Option Bool :=
 bif (!decide ((a.length:Int)=(b.length:Int))) then (
  some false)
 else (
  (zbt_p0 (0:Int) a b).bind fun o1=>(Sum.elim (fun (o1_0:Bool) =>
   some o1_0) (fun (o1_1:Unit) =>
   some true)) o1)
def zbt_G:Nat→Option CQ:=tblQ []
theorem zbt_Gok:∀f C,zbt_G f=some C→qAe Tryd.prog f C:=fun f C h=>by cases h
def zbt_d0:=(dQS (qAb (dSO 0 (dO 0)) (qAb (dSO 1 (dO 1)) (qAb (dSO 5 dZ) dNil))) (qAb (qA9 .str) (qAb (qA9 .str) dNil)))
def zbt_l0:SubQ:=mkL zbt_d0 (fun x=>zbt_p0 x.1.2.2.1 x.2.1 x.2.2.1) fun x r R kn kx kr=>(Sum.elim (fun (r_0:Bool)=>kr ⟨[sL 4 (.vB r_0)],[],[.view .str x.2.1,.view .str x.2.2.1]⟩) (fun (r_1:Unit)=>kx 0 ⟨[],[],[.view .str x.2.1,.view .str x.2.2.1]⟩)) r
def zbt_L:Nat→SubQ:=tblL [(0,zbt_l0)]
theorem zbt_sub0:qBr zbt_L zbt_G 2 6 26 0 zbt_b0:=qAu (show zbt_L 0=zbt_l0 from by kernel_rfl) fun x R kn kx kr=>qAs (step:=fun y=>qEq y x.2.1 x.2.2.1) (enc:=fun (y:Int)=>zbt_d0.e ((x.1.1,x.1.2.1,y,x.1.2.2.2),x.2)) (fun y=>by kernel_rfl) (fun y ki=>by simp only [qEq,-eq_self,qAd,qAg,obA,obS,slL,slR,qAc]; kernel_rfl) x.1.2.2.1
theorem zbt_subs:qAo zbt_L zbt_G 2 6 26 zbt_q:=qAk (show qAp zbt_L zbt_G 2 6 26 [(0,zbt_b0)] from ⟨zbt_sub0,tV⟩)
def zbt_da:=(qAb (dVC (dCO (dO 0))) (qAb (dVC (dCO (dO 1))) dNil))
def zbt_db:=(qAb (qA9 .str) (qAb (qA9 .str) dNil))
def zbt_c:CS:=mkC zbt_da zbt_db (fun x y=>zbt_s y.1 y.2.1) (fun x y r=>.c (.o (.vB r))) fun x y r=>[.view .str y.1,.view .str y.2.1]
theorem zbt_val:qAl Tryd.prog 28 zbt_c:=qAm zbt_chk 6 zbt_Gok 2 (fun x=>Nat.le_of_ble_eq_true rfl) (fun y=>rfl) zbt_subs fun x y=>by
 simp only [zbt_s,-eq_self,qAd,qAg,obA,obS,slL,slR,qAc];kernel_rfl
def zbt_w:CQ:=nestQ (qBj [(0,none,some (.str,9)),(1,none,some (.str,9))] (qC3 [false,false] zbt_c))
theorem zbt_ok:qAe Tryd.prog 28 zbt_w:=(fun h=>qCv (prep_nat (liftH_nat h.1)) (qB0 h)) zbt_val
def zbs_b0:IQ:=(.loop [0,1,5] (.seq (.seq (rg 14 [oM 11 t5,oM 12 t0,oP 13 (.len t12),oP 14 (.bi .lss t11 t13)]) (.cond t14 .skip (.cn [] (.exit 0)))) (.seq (.block 1 (.seq (.reg 25 (some [0,1,2,3,4,5,6,7,8]) [oM 17 t0,oM 18 t5,oP 19 (.iaddr 6 t17 t18),oP 20 (.load (some 6) t19),oM 21 t1,oM 22 t5,oP 23 (.iaddr 6 t21 t22),oP 24 (.load (some 6) t23),oP 25 (.ext (.aggEq true [.int .i64,.str,.str,.bool,.int .i64,.int .i64]) [t20,t24])]) (.cond t25 (.seq (rg 4 [oP 4 (.mv vF)]) (.cn [4] .ret)) .skip))) (rg 5 [oM 15 t5,oP 16 (.bi .add t15 (vI 1)),oM 5 t16]))))
def zbs_q:IQ:=(.seq (rg 4 [oP 4 (.mv vF)]) (.seq (.seq (rg 10 [oM 6 t0,oP 7 (.len t6),oM 8 t1,oP 9 (.len t8),oP 10 (.bi .neq t7 t9)]) (.cond t10 (.seq (rg 4 [oP 4 (.mv vF)]) (.cn [4] .ret)) .skip)) (.seq (.seq (rg 5 [oP 5 (.mv (vI 0))]) (.block 0 (.cn [0,1,5] (.sub 0 zbs_b0)))) (.seq (rg 4 [oP 4 (.mv vT)]) (.cn [4] .ret)))))
theorem zbs_chk:chk Tryd.prog 29 []=some (zbs_q.erase,[.tmp 4],26):=by kernel_rfl
def qEw (i:Int) (a b:List Eng.Node):Option (Int ⊕ (Bool ⊕ Unit)) :=
 bif decide (i<(a.length:Int)) then (
  gd (0≤i∧i<a.length) <|
  gd ((Int.toNat i)<a.length) <|
  gd (0≤i∧i<b.length) <|
  gd ((Int.toNat i)<b.length) <|
  bif (!(decide (((a.getD (Int.toNat i) (ET.dft .node)).kind)=((b.getD (Int.toNat i) (ET.dft .node)).kind)) && (decide (((a.getD (Int.toNat i) (ET.dft .node)).key)=((b.getD (Int.toNat i) (ET.dft .node)).key)) && (decide (((a.getD (Int.toNat i) (ET.dft .node)).text)=((b.getD (Int.toNat i) (ET.dft .node)).text)) && ((((a.getD (Int.toNat i) (ET.dft .node)).whole) == ((b.getD (Int.toNat i) (ET.dft .node)).whole)) && (decide (((a.getD (Int.toNat i) (ET.dft .node)).int)=((b.getD (Int.toNat i) (ET.dft .node)).int)) && (decide (((a.getD (Int.toNat i) (ET.dft .node)).kids)=((b.getD (Int.toNat i) (ET.dft .node)).kids)) && true))))))) then (
   some (.inr (.inl false)))
  else (
   gd (qAj (i+(1:Int))) <|
   some (.inl (i+(1:Int)))))
 else (
  some (.inr (.inr ())))
def zbs_p0 (i:Int) (a b:List Eng.Node):Option (Bool ⊕ Unit) :=
 qBh (fun x:Int=>qEw x a b) i
def zbs_s (a b:(List Eng.Node)):Option Bool :=
 bif (!decide ((a.length:Int)=(b.length:Int))) then (
  some false)
 else (
  (zbs_p0 (0:Int) a b).bind fun o1=>(Sum.elim (fun (o1_0:Bool) =>
   some o1_0) (fun (o1_1:Unit) =>
   some true)) o1)
def zbs_G:Nat→Option CQ:=tblQ []
theorem zbs_Gok:∀f C,zbs_G f=some C→qAe Tryd.prog f C:=fun f C h=>by cases h
def zbs_d0:=(dQS (qAb (dSO 0 (dO 0)) (qAb (dSO 1 (dO 1)) (qAb (dSO 5 dZ) dNil))) (qAb (qA9 .node) (qAb (qA9 .node) dNil)))
def zbs_l0:SubQ:=mkL zbs_d0 (fun x=>zbs_p0 x.1.2.2.1 x.2.1 x.2.2.1) fun x r R kn kx kr=>(Sum.elim (fun (r_0:Bool)=>kr ⟨[sL 4 (.vB r_0)],[],[.view .node x.2.1,.view .node x.2.2.1]⟩) (fun (r_1:Unit)=>kx 0 ⟨[],[],[.view .node x.2.1,.view .node x.2.2.1]⟩)) r
def zbs_L:Nat→SubQ:=tblL [(0,zbs_l0)]
theorem zbs_sub0:qBr zbs_L zbs_G 2 6 26 0 zbs_b0:=qAu (show zbs_L 0=zbs_l0 from by kernel_rfl) fun x R kn kx kr=>qAs (step:=fun y=>qEw y x.2.1 x.2.2.1) (enc:=fun (y:Int)=>zbs_d0.e ((x.1.1,x.1.2.1,y,x.1.2.2.2),x.2)) (fun y=>by kernel_rfl) (fun y ki=>by simp only [qEw,-eq_self,qAd,qAg,obA,obS,slL,slR,qAc]; kernel_rfl) x.1.2.2.1
theorem zbs_subs:qAo zbs_L zbs_G 2 6 26 zbs_q:=qAk (show qAp zbs_L zbs_G 2 6 26 [(0,zbs_b0)] from ⟨zbs_sub0,tV⟩)
def zbs_da:=(qAb (dVC (dCO (dO 0))) (qAb (dVC (dCO (dO 1))) dNil))
def zbs_db:=(qAb (qA9 .node) (qAb (qA9 .node) dNil))
def zbs_c:CS:=mkC zbs_da zbs_db (fun x y=>zbs_s y.1 y.2.1) (fun x y r=>.c (.o (.vB r))) fun x y r=>[.view .node y.1,.view .node y.2.1]
theorem zbs_val:qAl Tryd.prog 29 zbs_c:=qAm zbs_chk 6 zbs_Gok 2 (fun x=>Nat.le_of_ble_eq_true rfl) (fun y=>rfl) zbs_subs fun x y=>by
 simp only [zbs_s,-eq_self,qAd,qAg,obA,obS,slL,slR,qAc];kernel_rfl
def zbs_w:CQ:=nestQ (qBj [(0,none,some (.node,34)),(1,none,some (.node,34))] (qC3 [false,false] zbs_c))
theorem zbs_ok:qAe Tryd.prog 29 zbs_w:=(fun h=>qCv (prep_nat (liftH_nat h.1)) (qB0 h)) zbs_val
def zbr_q:IQ:=(.seq (rg 4 [oP 2 (.box 41 10 t0),oP 3 (.box 41 10 t1),oP 4 (.mv vF)]) (.seq (rg 4 [oP 5 (.faddr 1 t2),oP 6 (.load none t5),oP 7 (.faddr 1 t3),oP 8 (.load none t7),oP 9 (.bi .eql t6 t8),oM 10 t9,oF 11 (.faddr 2 t2) 10,oF 12 (.load none t11) 10,oF 13 (.faddr 2 t3) 10,oF 14 (.load none t13) 10,oF 15 (.bi .eql t12 t14) 10,oP 16 (.pick t10 t15 vF),oM 17 t16,oF 18 (.faddr 3 t2) 17,oF 19 (.load none t18) 17,oF 20 (.faddr 3 t3) 17,oF 21 (.load none t20) 17,oF 22 (.beq false t19 t21) 17,oP 23 (.pick t17 t22 vF),oM 24 t23,oF 25 (.faddr 4 t2) 24,oF 26 (.load none t25) 24,oF 27 (.faddr 4 t3) 24,oF 28 (.load none t27) 24,oF 29 (.bi .eql t26 t28) 24,oP 30 (.pick t24 t29 vF),oM 31 t30,oF 32 (.faddr 5 t2) 31,oF 33 (.load none t32) 31,oF 34 (.faddr 5 t3) 31,oF 35 (.load none t34) 31,oF 36 (.beq false t33 t35) 31,oP 37 (.pick t31 t36 vF),oM 38 t37,oF 39 (.faddr 6 t2) 38,oF 40 (.load none t39) 38,oF 41 (.faddr 6 t3) 38,oF 42 (.load none t41) 38,oF 43 (.bi .eql t40 t42) 38,oP 44 (.pick t38 t43 vF),oM 45 t44,oF 46 (.faddr 7 t2) 45,oF 47 (.load none t46) 45,oF 48 (.faddr 7 t3) 45,oF 49 (.load none t48) 45,oF 50 (.beq false t47 t49) 45,oP 51 (.pick t45 t50 vF),oM 52 t51,oF 53 (.faddr 9 t2) 52,oF 54 (.load none t53) 52,oF 55 (.faddr 9 t3) 52,oF 56 (.load none t55) 52,oF 57 (.beq false t54 t56) 52,oP 58 (.pick t52 t57 vF),oM 59 t58,oF 60 (.faddr 8 t2) 59,oF 61 (.load none t60) 59,oF 62 (.faddr 8 t3) 59,oF 63 (.load none t62) 59,oF 64 (.call 28 [t61,t63]) 59,oP 65 (.pick t59 t64 vF),oM 66 t65,oF 67 (.faddr 0 t2) 66,oF 68 (.load none t67) 66,oF 69 (.faddr 0 t3) 66,oF 70 (.load none t69) 66,oF 71 (.call 29 [t68,t70]) 66,oP 72 (.pick t66 t71 vF),oM 4 t72]) (.cn [4] .ret)))
theorem zbr_chk:chk Tryd.prog 13 []=some (zbr_q.erase,[.tmp 4],73):=by kernel_rfl
def zbr_s (a b:qGc):Option Bool :=
 bif ((((((((decide (a.kty=b.kty)) && (decide (a.kid=b.kid))) && (a.hasKid == b.hasKid)) && (decide (a.use=b.use))) && (a.hasUse == b.hasUse)) && (decide (a.alg=b.alg))) && (a.hasAlg == b.hasAlg)) && (a.hasOps == b.hasOps)) then (
  (zbt_s a.ops b.ops).bind fun r1 =>
  bif r1 then (
   (zbs_s a.value b.value).bind fun r2 =>
   some r2)
  else (
   some false))
 else (
  some false)
def zbr_G:Nat→Option CQ:=tblQ [(28,zbt_w),(29,zbs_w)]
theorem zbr_Gok:∀f C,zbr_G f=some C→qAe Tryd.prog f C:=qAi ⟨zbt_ok,zbs_ok,tV⟩
def zbr_L:Nat→SubQ:=tblL []
theorem zbr_subs:qAo zbr_L zbr_G 4 5 73 zbr_q:=qAk (show qAp zbr_L zbr_G 4 5 73 [] from tV)
def zbr_da:=(qAb (dVC (dCA zDJK2)) (qAb (dVC (dCA (qAb (dO 2) (qAb dZ (qAb dS (qAb dB (qAb dS (qAb dB (qAb dS (qAb dB (qAb (dO 3) (qAb dB dNil)))))))))))) dNil))
def zbr_db:=(qAb (qA9 .node) (qAb (qA9 .str) (qAb (qA9 .node) (qAb (qA9 .str) dNil))))
def zbr_c:CS:=mkC zbr_da zbr_db (fun x y=>zbr_s (⟨y.1,x.1.2.1,x.1.2.2.1,x.1.2.2.2.1,x.1.2.2.2.2.1,x.1.2.2.2.2.2.1,x.1.2.2.2.2.2.2.1,x.1.2.2.2.2.2.2.2.1,y.2.1,x.1.2.2.2.2.2.2.2.2.2.1⟩:qGc) (⟨y.2.2.1,x.2.1.2.1,x.2.1.2.2.1,x.2.1.2.2.2.1,x.2.1.2.2.2.2.1,x.2.1.2.2.2.2.2.1,x.2.1.2.2.2.2.2.2.1,x.2.1.2.2.2.2.2.2.2.1,y.2.2.2.1,x.2.1.2.2.2.2.2.2.2.2.2.1⟩:qGc)) (fun x y r=>.c (.o (.vB r))) fun x y r=>[.view .node y.1,.view .str y.2.1,.view .node y.2.2.1,.view .str y.2.2.2.1]
theorem zbr_val:qAl Tryd.prog 13 zbr_c:=qAm zbr_chk 5 zbr_Gok 4 (fun x=>Nat.le_of_ble_eq_true rfl) (fun y=>rfl) zbr_subs fun x y=>by
 simp only [zbr_s,-eq_self,qAd,qAg,obA,obS,slL,slR,qAc];kernel_rfl
def zbr_w:CQ:=nestQ (qBj [(0,some 0,some (.node,34)),(0,some 8,some (.str,9)),(1,some 0,some (.node,34)),(1,some 8,some (.str,9))] (qC3 [false,false,false,false] zbr_c))
theorem zbr_ok:qAe Tryd.prog 13 zbr_w:=(fun h=>qCv (prep_nat (liftH_nat h.1)) (qB0 h)) zbr_val
def zbq_q:IQ:=(.seq (rg 8 [oP 8 (.mv vF)]) (.seq (rg 9 [oM 10 t0,oM 11 t1,oM 12 t2,oP 13 (.call 9 [t10,t11,t12]),oM 9 t13]) (.seq (rg 8 [oM 14 t9,oP 15 (.bi .geq t14 (vI 0)),oM 16 t15,oF 17 (.mv t0) 16,oF 18 (.mv t9) 16,oF 19 (.iaddr 6 t17 t18) 16,oF 20 (.faddr 0 t19) 16,oF 21 (.load none t20) 16,oF 22 (.bi .eql t21 (vI 5)) 16,oP 23 (.pick t16 t22 vF),oM 24 t23,oF 25 (.mv t0) 24,oF 26 (.mv t9) 24,oF 27 (.iaddr 6 t25 t26) 24,oF 28 (.faddr 2 t27) 24,oF 29 (.load none t28) 24,oF 30 (.mv t3) 24,oF 31 (.bi .eql t29 t30) 24,oP 32 (.pick t24 t31 vF),oM 8 t32]) (.cn [8] .ret))))
theorem zbq_chk:chk Tryd.prog 11 []=some (zbq_q.erase,[.tmp 8],33):=by kernel_rfl
def zbq_s (v:(List Eng.Node)) (at_:Int) (name text:BA):Option Bool :=
 (qEv v at_ name).bind fun r1 =>
 gd ((decide ((0:Int)≤r1))=true→0≤r1∧r1<v.length) <|
 gd ((decide ((0:Int)≤r1))=true→(Int.toNat r1)<v.length) <|
 gd ((decide ((0:Int)≤r1))=true→(Int.toNat r1)<v.length) <|
 gd (((decide ((0:Int)≤r1)) && (decide (((v.getD (Int.toNat r1) (ET.dft .node)).kind)=(5:Int))))=true→0≤r1∧r1<v.length) <|
 gd (((decide ((0:Int)≤r1)) && (decide (((v.getD (Int.toNat r1) (ET.dft .node)).kind)=(5:Int))))=true→(Int.toNat r1)<v.length) <|
 gd (((decide ((0:Int)≤r1)) && (decide (((v.getD (Int.toNat r1) (ET.dft .node)).kind)=(5:Int))))=true→(Int.toNat r1)<v.length) <|
 some (((decide ((0:Int)≤r1)) && (decide (((v.getD (Int.toNat r1) (ET.dft .node)).kind)=(5:Int)))) && (decide (((v.getD (Int.toNat r1) (ET.dft .node)).text)=text)))
def zbq_G:Nat→Option CQ:=tblQ [(9,zah_w)]
theorem zbq_Gok:∀f C,zbq_G f=some C→qAe Tryd.prog f C:=qAi ⟨zah_ok,tV⟩
def zbq_L:Nat→SubQ:=tblL []
theorem zbq_subs:qAo zbq_L zbq_G 1 10 33 zbq_q:=qAk (show qAp zbq_L zbq_G 1 10 33 [] from tV)
def zbq_da:=(qAb (dVC (dCO (dO 0))) (qAb (dVC (dCO dZ)) (qAb (dVC (dCO dS)) (qAb (dVC (dCO dS)) dNil))))
def zbq_db:=(qAb (qA9 .node) dNil)
def zbq_c:CS:=mkC zbq_da zbq_db (fun x y=>zbq_s y.1 x.2.1 x.2.2.1 x.2.2.2.1) (fun x y r=>.c (.o (.vB r))) fun x y r=>[.view .node y.1]
theorem zbq_val:qAl Tryd.prog 11 zbq_c:=qAm zbq_chk 10 zbq_Gok 1 (fun x=>Nat.le_of_ble_eq_true rfl) (fun y=>rfl) zbq_subs fun x y=>by
 simp only [zbq_s,-eq_self,qAd,qAg,obA,obS,slL,slR,qAc];kernel_rfl
def zbq_w:CQ:=qBj [(0,none,some (.node,34))] (qC3 [false] zbq_c)
theorem zbq_ok:qAe Tryd.prog 11 zbq_w:=qB0 zbq_val
def zbp_b1:IQ:=(.join [] [] (.cond t15 (.seq (rg 6 [oM 22 t0,oM 23 t1,oP 24 (.call 11 [t22,t23,(.v (.string ⟨#[107,116,121]⟩)),(.v (.string ⟨#[82,83,65]⟩))]),oM 6 t24]) (.cn [6] .ret)) (.seq (rg 25 [oP 26 (.bi .eql t7 (vI 10)),oM 25 t26]) (.cond t25 (.seq (rg 6 [oM 27 t0,oM 28 t1,oP 29 (.call 11 [t27,t28,(.v (.string ⟨#[107,116,121]⟩)),(.v (.string ⟨#[69,67]⟩))]),oM 30 t29,oF 31 (.mv t0) 30,oF 32 (.mv t1) 30,oF 33 (.call 11 [t31,t32,(.v (.string ⟨#[99,114,118]⟩)),(.v (.string ⟨#[80,45,50,53,54]⟩))]) 30,oP 34 (.pick t30 t33 vF),oM 6 t34]) (.cn [6] .ret)) (.seq (rg 35 [oP 36 (.bi .eql t7 (vI 11)),oM 35 t36]) (.cond t35 (.seq (rg 6 [oM 37 t0,oM 38 t1,oP 39 (.call 11 [t37,t38,(.v (.string ⟨#[107,116,121]⟩)),(.v (.string ⟨#[69,67]⟩))]),oM 40 t39,oF 41 (.mv t0) 40,oF 42 (.mv t1) 40,oF 43 (.call 11 [t41,t42,(.v (.string ⟨#[99,114,118]⟩)),(.v (.string ⟨#[80,45,51,56,52]⟩))]) 40,oP 44 (.pick t40 t43 vF),oM 6 t44]) (.cn [6] .ret)) (.seq (rg 45 [oP 46 (.bi .eql t7 (vI 12)),oM 45 t46]) (.cond t45 (.seq (rg 6 [oM 47 t0,oM 48 t1,oP 49 (.call 11 [t47,t48,(.v (.string ⟨#[107,116,121]⟩)),(.v (.string ⟨#[79,75,80]⟩))]),oM 50 t49,oF 51 (.mv t0) 50,oF 52 (.mv t1) 50,oF 53 (.call 11 [t51,t52,(.v (.string ⟨#[99,114,118]⟩)),(.v (.string ⟨#[69,100,50,53,53,49,57]⟩))]) 50,oP 54 (.pick t50 t53 vF),oM 6 t54]) (.cn [6] .ret)) .skip))))))))
def zbp_b0:IQ:=(.join [] [] (.cond t8 (.seq (rg 6 [oM 12 t0,oM 13 t1,oP 14 (.call 11 [t12,t13,(.v (.string ⟨#[107,116,121]⟩)),(.v (.string ⟨#[111,99,116]⟩))]),oM 6 t14]) (.cn [6] .ret)) (.seq (.seq (rg 15 [oP 16 (.bi .eql t7 (vI 4)),oM 15 t16]) (.cond t15 .skip (.seq (rg 15 [oP 17 (.bi .eql t7 (vI 5)),oM 15 t17]) (.cond t15 .skip (.seq (rg 15 [oP 18 (.bi .eql t7 (vI 6)),oM 15 t18]) (.cond t15 .skip (.seq (rg 15 [oP 19 (.bi .eql t7 (vI 7)),oM 15 t19]) (.cond t15 .skip (.seq (rg 15 [oP 20 (.bi .eql t7 (vI 8)),oM 15 t20]) (.cond t15 .skip (rg 15 [oP 21 (.bi .eql t7 (vI 9)),oM 15 t21]))))))))))) (.cn [0,1,7,15] (.sub 1 zbp_b1)))))
def zbp_q:IQ:=(.seq (rg 6 [oP 6 (.mv vF)]) (.seq (.seq (rg 7 [oM 7 t2]) (.block 0 (.seq (.seq (rg 8 [oP 9 (.bi .eql t7 (vI 1)),oM 8 t9]) (.cond t8 .skip (.seq (rg 8 [oP 10 (.bi .eql t7 (vI 2)),oM 8 t10]) (.cond t8 .skip (rg 8 [oP 11 (.bi .eql t7 (vI 3)),oM 8 t11]))))) (.cn [0,1,7,8] (.sub 0 zbp_b0))))) (.seq (rg 6 [oP 6 (.mv vF)]) (.cn [6] .ret))))
theorem zbp_chk:chk Tryd.prog 16 []=some (zbp_q.erase,[.tmp 6],55):=by kernel_rfl
def zbp_p1 (at_ x7_:Int) (x15_:Bool) (v:List Eng.Node):Option (Bool ⊕ Unit) :=
 bif x15_ then (
  (zbq_s v at_ (⟨#[107,116,121]⟩:BA) (⟨#[82,83,65]⟩:BA)).bind fun r2 =>
  some (.inl r2))
 else (
  bif decide (x7_=(10:Int)) then (
   (zbq_s v at_ (⟨#[107,116,121]⟩:BA) (⟨#[69,67]⟩:BA)).bind fun r3 =>
   bif r3 then (
    (zbq_s v at_ (⟨#[99,114,118]⟩:BA) (⟨#[80,45,50,53,54]⟩:BA)).bind fun r4 =>
    some (.inl r4))
   else (
    some (.inl false)))
  else (
   bif decide (x7_=(11:Int)) then (
    (zbq_s v at_ (⟨#[107,116,121]⟩:BA) (⟨#[69,67]⟩:BA)).bind fun r5 =>
    bif r5 then (
     (zbq_s v at_ (⟨#[99,114,118]⟩:BA) (⟨#[80,45,51,56,52]⟩:BA)).bind fun r6 =>
     some (.inl r6))
    else (
     some (.inl false)))
   else (
    bif decide (x7_=(12:Int)) then (
     (zbq_s v at_ (⟨#[107,116,121]⟩:BA) (⟨#[79,75,80]⟩:BA)).bind fun r7 =>
     bif r7 then (
      (zbq_s v at_ (⟨#[99,114,118]⟩:BA) (⟨#[69,100,50,53,53,49,57]⟩:BA)).bind fun r8 =>
      some (.inl r8))
     else (
      some (.inl false)))
    else (
     some (.inr ())))))
def zbp_p0 (at_ x7_:Int) (x8_:Bool) (v:List Eng.Node):Option (Bool ⊕ Unit) :=
 bif x8_ then (
  (zbq_s v at_ (⟨#[107,116,121]⟩:BA) (⟨#[111,99,116]⟩:BA)).bind fun r1 =>
  some (.inl r1))
 else (
  bif decide (x7_=(4:Int)) then (
   (zbp_p1 at_ x7_ (decide (x7_=(4:Int))) v).bind fun o9=>(Sum.elim (fun (o9_0:Bool) =>
    some (.inl o9_0)) (fun (o9_1:Unit) =>
    some (.inr ()))) o9)
  else (
   bif decide (x7_=(5:Int)) then (
    (zbp_p1 at_ x7_ (decide (x7_=(5:Int))) v).bind fun o10=>(Sum.elim (fun (o10_0:Bool) =>
     some (.inl o10_0)) (fun (o10_1:Unit) =>
     some (.inr ()))) o10)
   else (
    bif decide (x7_=(6:Int)) then (
     (zbp_p1 at_ x7_ (decide (x7_=(6:Int))) v).bind fun o11=>(Sum.elim (fun (o11_0:Bool) =>
      some (.inl o11_0)) (fun (o11_1:Unit) =>
      some (.inr ()))) o11)
    else (
     bif decide (x7_=(7:Int)) then (
      (zbp_p1 at_ x7_ (decide (x7_=(7:Int))) v).bind fun o12=>(Sum.elim (fun (o12_0:Bool) =>
       some (.inl o12_0)) (fun (o12_1:Unit) =>
       some (.inr ()))) o12)
     else (
      bif decide (x7_=(8:Int)) then (
       (zbp_p1 at_ x7_ (decide (x7_=(8:Int))) v).bind fun o13=>(Sum.elim (fun (o13_0:Bool) =>
        some (.inl o13_0)) (fun (o13_1:Unit) =>
        some (.inr ()))) o13)
      else (
       (zbp_p1 at_ x7_ (decide (x7_=(9:Int))) v).bind fun o14=>(Sum.elim (fun (o14_0:Bool) =>
        some (.inl o14_0)) (fun (o14_1:Unit) =>
        some (.inr ()))) o14))))))
def zbp_s (v:(List Eng.Node)) (at_ a:Int):Option Bool :=
 bif decide (a=(1:Int)) then (
  (zbp_p0 at_ a (decide (a=(1:Int))) v).bind fun o15=>(Sum.elim (fun (o15_0:Bool) =>
   some o15_0) (fun (o15_1:Unit) =>
   some false)) o15)
 else (
  bif decide (a=(2:Int)) then (
   (zbp_p0 at_ a (decide (a=(2:Int))) v).bind fun o16=>(Sum.elim (fun (o16_0:Bool) =>
    some o16_0) (fun (o16_1:Unit) =>
    some false)) o16)
  else (
   (zbp_p0 at_ a (decide (a=(3:Int))) v).bind fun o17=>(Sum.elim (fun (o17_0:Bool) =>
    some o17_0) (fun (o17_1:Unit) =>
    some false)) o17))
def zbp_G:Nat→Option CQ:=tblQ [(11,zbq_w)]
theorem zbp_Gok:∀f C,zbp_G f=some C→qAe Tryd.prog f C:=qAi ⟨zbq_ok,tV⟩
def zbp_d1:=(dQS (qAb (dSO 0 (dO 0)) (qAb (dSO 1 dZ) (qAb (dSO 7 dZ) (qAb (dSO 15 dB) dNil)))) (qAb (qA9 .node) dNil))
def zbp_l1:SubQ:=mkL zbp_d1 (fun x=>zbp_p1 x.1.2.1 x.1.2.2.1 x.1.2.2.2.1 x.2.1) fun x r R kn kx kr=>(Sum.elim (fun (r_0:Bool)=>kr ⟨[sL 6 (.vB r_0)],[],[.view .node x.2.1]⟩) (fun (r_1:Unit)=>kn ⟨[],[],[.view .node x.2.1]⟩)) r
def zbp_d0:=(dQS (qAb (dSO 0 (dO 0)) (qAb (dSO 1 dZ) (qAb (dSO 7 dZ) (qAb (dSO 8 dB) dNil)))) (qAb (qA9 .node) dNil))
def zbp_l0:SubQ:=mkL zbp_d0 (fun x=>zbp_p0 x.1.2.1 x.1.2.2.1 x.1.2.2.2.1 x.2.1) fun x r R kn kx kr=>(Sum.elim (fun (r_0:Bool)=>kr ⟨[sL 6 (.vB r_0)],[],[.view .node x.2.1]⟩) (fun (r_1:Unit)=>kn ⟨[],[],[.view .node x.2.1]⟩)) r
def zbp_L:Nat→SubQ:=tblL [(1,zbp_l1),(0,zbp_l0)]
theorem zbp_sub1:qBr zbp_L zbp_G 1 8 55 1 zbp_b1:=qAu (show zbp_L 1=zbp_l1 from by kernel_rfl) fun x R kn kx kr=>by
 simp only [zbp_p1,-eq_self,qAd,qAg,obA,obS,slL,slR,qAc];kernel_rfl
theorem zbp_sub0:qBr zbp_L zbp_G 1 8 55 0 zbp_b0:=qAu (show zbp_L 0=zbp_l0 from by kernel_rfl) fun x R kn kx kr=>by
 simp only [zbp_p0,-eq_self,qAd,qAg,obA,obS,slL,slR,qAc];kernel_rfl
theorem zbp_subs:qAo zbp_L zbp_G 1 8 55 zbp_q:=qAk (show qAp zbp_L zbp_G 1 8 55 [(0,zbp_b0),(1,zbp_b1)] from ⟨zbp_sub0,zbp_sub1,tV⟩)
def zbp_da:=(qAb (dVC (dCO (dO 0))) (qAb (dVC (dCO dZ)) (qAb (dVC (dCO dZ)) dNil)))
def zbp_db:=(qAb (qA9 .node) dNil)
def zbp_c:CS:=mkC zbp_da zbp_db (fun x y=>zbp_s y.1 x.2.1 x.2.2.1) (fun x y r=>.c (.o (.vB r))) fun x y r=>[.view .node y.1]
theorem zbp_val:qAl Tryd.prog 16 zbp_c:=qAm zbp_chk 8 zbp_Gok 1 (fun x=>Nat.le_of_ble_eq_true rfl) (fun y=>rfl) zbp_subs fun x y=>by
 simp only [zbp_s,-eq_self,qAd,qAg,obA,obS,slL,slR,qAc];kernel_rfl
def zbp_w:CQ:=qBj [(0,none,some (.node,34))] (qC3 [false] zbp_c)
theorem zbp_ok:qAe Tryd.prog 16 zbp_w:=qB0 zbp_val
def zbn_b0:IQ:=(.loop [0,8,9] (.seq (.seq (rg 48 [oM 45 t9,oM 46 t8,oP 47 (.len t46),oP 48 (.bi .lss t45 t47)]) (.cond t48 .skip (.cn [] (.exit 0)))) (.seq (.block 1 (.seq (rg 70 [oM 51 t0,oM 52 t8,oM 53 t9,oP 54 (.iaddr 1 t52 t53),oP 55 (.load none t54),oP 56 (.iaddr 6 t51 t55),oP 57 (.faddr 0 t56),oP 58 (.load none t57),oP 59 (.bi .eql t58 (vI 5)),oM 60 t59,oF 61 (.mv t0) 60,oF 62 (.mv t8) 60,oF 63 (.mv t9) 60,oF 64 (.iaddr 1 t62 t63) 60,oF 65 (.load none t64) 60,oF 66 (.iaddr 6 t61 t65) 60,oF 67 (.faddr 2 t66) 60,oF 68 (.load none t67) 60,oF 69 (.bi .eql t68 (.v (.string ⟨#[118,101,114,105,102,121]⟩))) 60,oP 70 (.pick t60 t69 vF)]) (.cond t70 (.seq (rg 6 [oP 6 (.mv vT)]) (.cn [6] .ret)) .skip))) (rg 9 [oM 49 t9,oP 50 (.bi .add t49 (vI 1)),oM 9 t50]))))
def zbn_q:IQ:=(.seq (rg 6 [oP 6 (.mv vF)]) (.seq (.seq (rg 19 [oM 10 t0,oM 11 t1,oP 12 (.call 9 [t10,t11,(.v (.string ⟨#[117,115,101]⟩))]),oP 13 (.bi .geq t12 (vI 0)),oM 14 t13,oF 15 (.mv t0) 14,oF 16 (.mv t1) 14,oF 17 (.call 11 [t15,t16,(.v (.string ⟨#[117,115,101]⟩)),(.v (.string ⟨#[115,105,103]⟩))]) 14,oF 18 (.un .not t17) 14,oP 19 (.pick t14 t18 vF)]) (.cond t19 (.seq (rg 6 [oP 6 (.mv vF)]) (.cn [6] .ret)) .skip)) (.seq (.seq (rg 36 [oM 20 t0,oM 21 t1,oP 22 (.call 9 [t20,t21,(.v (.string ⟨#[97,108,103]⟩))]),oP 23 (.bi .geq t22 (vI 0)),oM 24 t23,oF 25 (.mv t2) 24,oF 26 (.call 32 [t25]) 24,oF 27 (.bi .eql t26 (.v (.string ⟨#[]⟩))) 24,oF 28 (.mv t27) 24,oE 29 (.mv t0) 28,oE 30 (.mv t1) 28,oE 31 (.mv t2) 28,oE 32 (.call 32 [t31]) 28,oE 33 (.call 11 [t29,t30,(.v (.string ⟨#[97,108,103]⟩)),t32]) 28,oE 34 (.un .not t33) 28,oF 35 (.pick t28 vT t34) 24,oP 36 (.pick t24 t35 vF)]) (.cond t36 (.seq (rg 6 [oP 6 (.mv vF)]) (.cn [6] .ret)) .skip)) (.seq (rg 7 [oM 37 t0,oM 38 t1,oP 39 (.call 9 [t37,t38,(.v (.string ⟨#[107,101,121,95,111,112,115]⟩))]),oM 7 t39]) (.seq (.seq (rg 41 [oM 40 t7,oP 41 (.bi .lss t40 (vI 0))]) (.cond t41 (.seq (rg 6 [oP 6 (.mv vT)]) (.cn [6] .ret)) .skip)) (.seq (rg 8 [oM 42 t0,oM 43 t7,oP 44 (.call 10 [t42,t43]),oM 8 t44]) (.seq (.seq (rg 9 [oP 9 (.mv (vI 0))]) (.block 0 (.cn [0,8,9] (.sub 0 zbn_b0)))) (.seq (rg 6 [oP 6 (.mv vF)]) (.cn [6] .ret)))))))))
theorem zbn_chk:chk Tryd.prog 17 []=some (zbn_q.erase,[.tmp 6],71):=by kernel_rfl
def qDo (i:Int) (v:List Eng.Node) (l:List Int):Option (Int ⊕ (Bool ⊕ Unit)) :=
 bif decide (i<(l.length:Int)) then (
  gd (0≤i∧i<l.length) <|
  gd ((Int.toNat i)<l.length) <|
  gd (0≤(l.getD (Int.toNat i) (ET.dft .i64))∧(l.getD (Int.toNat i) (ET.dft .i64))<v.length) <|
  gd ((Int.toNat (l.getD (Int.toNat i) (ET.dft .i64)))<v.length) <|
  gd ((Int.toNat (l.getD (Int.toNat i) (ET.dft .i64)))<v.length) <|
  gd ((decide (((v.getD (Int.toNat (l.getD (Int.toNat i) (ET.dft .i64))) (ET.dft .node)).kind)=(5:Int)))=true→0≤i∧i<l.length) <|
  gd ((decide (((v.getD (Int.toNat (l.getD (Int.toNat i) (ET.dft .i64))) (ET.dft .node)).kind)=(5:Int)))=true→(Int.toNat i)<l.length) <|
  gd ((decide (((v.getD (Int.toNat (l.getD (Int.toNat i) (ET.dft .i64))) (ET.dft .node)).kind)=(5:Int)))=true→0≤(l.getD (Int.toNat i) (ET.dft .i64))∧(l.getD (Int.toNat i) (ET.dft .i64))<v.length) <|
  gd ((decide (((v.getD (Int.toNat (l.getD (Int.toNat i) (ET.dft .i64))) (ET.dft .node)).kind)=(5:Int)))=true→(Int.toNat (l.getD (Int.toNat i) (ET.dft .i64)))<v.length) <|
  gd ((decide (((v.getD (Int.toNat (l.getD (Int.toNat i) (ET.dft .i64))) (ET.dft .node)).kind)=(5:Int)))=true→(Int.toNat (l.getD (Int.toNat i) (ET.dft .i64)))<v.length) <|
  bif ((decide (((v.getD (Int.toNat (l.getD (Int.toNat i) (ET.dft .i64))) (ET.dft .node)).kind)=(5:Int))) && (decide (((v.getD (Int.toNat (l.getD (Int.toNat i) (ET.dft .i64))) (ET.dft .node)).text)=(⟨#[118,101,114,105,102,121]⟩:BA)))) then (
   some (.inr (.inl true)))
  else (
   gd (qAj (i+(1:Int))) <|
   some (.inl (i+(1:Int)))))
 else (
  some (.inr (.inr ())))
def zbn_p0 (i:Int) (v:List Eng.Node) (l:List Int):Option (Bool ⊕ Unit) :=
 qBh (fun x:Int=>qDo x v l) i
def zbn_s (v:(List Eng.Node)) (at_ a:Int):Option Bool :=
 (qEv v at_ (⟨#[117,115,101]⟩:BA)).bind fun r9 =>
 bif decide ((0:Int)≤r9) then (
  (zbq_s v at_ (⟨#[117,115,101]⟩:BA) (⟨#[115,105,103]⟩:BA)).bind fun r10 =>
  bif (!r10) then (
   some false)
  else (
   (qEv v at_ (⟨#[97,108,103]⟩:BA)).bind fun r11 =>
   bif decide ((0:Int)≤r11) then (
    (qBb a).bind fun r12 =>
    bif decide (r12=(⟨#[]⟩:BA)) then (
     some false)
    else (
     (qBb a).bind fun r13 =>
     (zbq_s v at_ (⟨#[97,108,103]⟩:BA) r13).bind fun r14 =>
     bif (!r14) then (
      some false)
     else (
      (qEv v at_ (⟨#[107,101,121,95,111,112,115]⟩:BA)).bind fun r15 =>
      bif decide (r15<(0:Int)) then (
       some true)
      else (
       (zag_s v r15).bind fun r16 =>
       (zbn_p0 (0:Int) v r16).bind fun o17=>(Sum.elim (fun (o17_0:Bool) =>
        some o17_0) (fun (o17_1:Unit) =>
        some false)) o17))))
   else (
    (qEv v at_ (⟨#[107,101,121,95,111,112,115]⟩:BA)).bind fun r18 =>
    bif decide (r18<(0:Int)) then (
     some true)
    else (
     (zag_s v r18).bind fun r19 =>
     (zbn_p0 (0:Int) v r19).bind fun o20=>(Sum.elim (fun (o20_0:Bool) =>
      some o20_0) (fun (o20_1:Unit) =>
      some false)) o20))))
 else (
  (qEv v at_ (⟨#[97,108,103]⟩:BA)).bind fun r21 =>
  bif decide ((0:Int)≤r21) then (
   (qBb a).bind fun r22 =>
   bif decide (r22=(⟨#[]⟩:BA)) then (
    some false)
   else (
    (qBb a).bind fun r23 =>
    (zbq_s v at_ (⟨#[97,108,103]⟩:BA) r23).bind fun r24 =>
    bif (!r24) then (
     some false)
    else (
     (qEv v at_ (⟨#[107,101,121,95,111,112,115]⟩:BA)).bind fun r25 =>
     bif decide (r25<(0:Int)) then (
      some true)
     else (
      (zag_s v r25).bind fun r26 =>
      (zbn_p0 (0:Int) v r26).bind fun o27=>(Sum.elim (fun (o27_0:Bool) =>
       some o27_0) (fun (o27_1:Unit) =>
       some false)) o27))))
  else (
   (qEv v at_ (⟨#[107,101,121,95,111,112,115]⟩:BA)).bind fun r28 =>
   bif decide (r28<(0:Int)) then (
    some true)
   else (
    (zag_s v r28).bind fun r29 =>
    (zbn_p0 (0:Int) v r29).bind fun o30=>(Sum.elim (fun (o30_0:Bool) =>
     some o30_0) (fun (o30_1:Unit) =>
     some false)) o30)))
def zbn_G:Nat→Option CQ:=tblQ [(9,zah_w),(11,zbq_w),(32,keyset_Name_w),(10,zag_w)]
theorem zbn_Gok:∀f C,zbn_G f=some C→qAe Tryd.prog f C:=qAi ⟨zah_ok,zbq_ok,keyset_Name_ok,zag_ok,tV⟩
def zbn_d0:=(dQS (qAb (dSO 0 (dO 0)) (qAb (dSO 8 (dO 1)) (qAb (dSO 9 dZ) dNil))) (qAb (qA9 .node) (qAb (dRow .i64 3) dNil)))
def zbn_l0:SubQ:=mkL zbn_d0 (fun x=>zbn_p0 x.1.2.2.1 x.2.1 x.2.2.1) fun x r R kn kx kr=>(Sum.elim (fun (r_0:Bool)=>kr ⟨[sL 6 (.vB r_0)],[],[.view .node x.2.1]⟩) (fun (r_1:Unit)=>kx 0 ⟨[],[],[.view .node x.2.1]⟩)) r
def zbn_L:Nat→SubQ:=tblL [(0,zbn_l0)]
theorem zbn_sub0:qBr zbn_L zbn_G 1 10 71 0 zbn_b0:=qAu (show zbn_L 0=zbn_l0 from by kernel_rfl) fun x R kn kx kr=>qAs (step:=fun y=>qDo y x.2.1 x.2.2.1) (enc:=fun (y:Int)=>zbn_d0.e ((x.1.1,x.1.2.1,y,x.1.2.2.2),x.2)) (fun y=>by kernel_rfl) (fun y ki=>by simp only [qDo,-eq_self,qAd,qAg,obA,obS,slL,slR,qAc]; kernel_rfl) x.1.2.2.1
theorem zbn_subs:qAo zbn_L zbn_G 1 10 71 zbn_q:=qAk (show qAp zbn_L zbn_G 1 10 71 [(0,zbn_b0)] from ⟨zbn_sub0,tV⟩)
def zbn_da:=(qAb (dVC (dCO (dO 0))) (qAb (dVC (dCO dZ)) (qAb (dVC (dCO dZ)) dNil)))
def zbn_db:=(qAb (qA9 .node) dNil)
def zbn_c:CS:=mkC zbn_da zbn_db (fun x y=>zbn_s y.1 x.2.1 x.2.2.1) (fun x y r=>.c (.o (.vB r))) fun x y r=>[.view .node y.1]
theorem zbn_val:qAl Tryd.prog 17 zbn_c:=qAm zbn_chk 10 zbn_Gok 1 (fun x=>Nat.le_of_ble_eq_true rfl) (fun y=>rfl) zbn_subs fun x y=>by
 simp only [zbn_s,-eq_self,qAd,qAg,obA,obS,slL,slR,qAc];kernel_rfl
def zbn_w:CQ:=qBj [(0,none,some (.node,34))] (qC3 [false] zbn_c)
theorem zbn_ok:qAe Tryd.prog 17 zbn_w:=qB0 zbn_val
def zbm_b0:IQ:=(.loop [1,2,7,9,13,14,15,16] (.seq (.seq (rg 63 [oM 60 t16,oM 61 t13,oP 62 (.len t61),oP 63 (.bi .lss t60 t62)]) (.cond t63 .skip (.cn [1,2,7,9,14,15] (.exit 0)))) (.seq (.block 1 (.seq (rg 72 [oM 66 t9,oM 67 t13,oM 68 t16,oP 69 (.iaddr 1 t67 t68),oP 70 (.load none t69),oM 71 t1,oP 72 (.call 11 [t66,t70,(.v (.string ⟨#[107,105,100]⟩)),t71])]) (.cond t72 (.seq (rg 14 [oM 73 t14,oP 74 (.bi .add t73 (vI 1)),oM 14 t74]) (rg 15 [oM 75 t13,oM 76 t16,oP 77 (.iaddr 1 t75 t76),oP 78 (.load none t77),oM 15 t78])) .skip))) (rg 16 [oM 64 t16,oP 65 (.bi .add t64 (vI 1)),oM 16 t65]))))
def zbm_q:IQ:=(.seq (rg 6 [oP 6 (.mv vF)]) (.seq (.seq (rg 21 [oP 20 (.call 6 []),oP 21 (.un .not t20)]) (.cond t21 (.seq (rg 6 [oP 6 (.mv vF)]) (.cn [6] .ret)) .skip)) (.seq (rg 8 [oM 23 t0,oP 24 (.call 7 [t23]),oM 22 t24,oP 25 (.extract t22 0),oP 26 (.extract t22 1),oM 7 t25,oM 8 t26]) (.seq (.seq (rg 28 [oM 27 t8,oP 28 (.bi .neq t27 (vI 0))]) (.cond t28 (.seq (rg 6 [oM 29 t7,oP 30 (.len t29),oP 31 (.bi .eql t30 (vI 0)),oM 6 t31]) (.cn [6] .ret)) .skip)) (.seq (rg 11 [oM 33 t0,oP 34 (.call 8 [t33]),oM 32 t34,oP 35 (.extract t32 0),oP 36 (.extract t32 1),oP 37 (.extract t32 2),oM 9 t35,oM 10 t36,oM 11 t37]) (.seq (.seq (rg 39 [oM 38 t10,oP 39 (.bi .neq t38 (vI 0))]) (.cond t39 (.seq (rg 6 [oP 6 (.mv vF)]) (.cn [6] .ret)) .skip)) (.seq (rg 12 [oM 40 t9,oP 41 (.call 9 [t40,(vI 0),(.v (.string ⟨#[107,101,121,115]⟩))]),oM 12 t41]) (.seq (.seq (rg 51 [oM 42 t12,oP 43 (.bi .lss t42 (vI 0)),oM 44 t43,oE 45 (.mv t9) 44,oE 46 (.mv t12) 44,oE 47 (.iaddr 6 t45 t46) 44,oE 48 (.faddr 0 t47) 44,oE 49 (.load none t48) 44,oE 50 (.bi .neq t49 (vI 6)) 44,oP 51 (.pick t44 vT t50)]) (.cond t51 (.seq (rg 6 [oP 6 (.mv vF)]) (.cn [6] .ret)) .skip)) (.seq (rg 13 [oM 52 t9,oM 53 t12,oP 54 (.call 10 [t52,t53]),oM 13 t54]) (.seq (.seq (rg 59 [oM 55 t13,oP 56 (.len t55),oM 57 t7,oP 58 (.len t57),oP 59 (.bi .neq t56 t58)]) (.cond t59 (.seq (rg 6 [oP 6 (.mv vF)]) (.cn [6] .ret)) .skip)) (.seq (rg 14 [oP 14 (.mv (vI 0))]) (.seq (rg 15 [oP 15 (.mv (.v (.int .i64 (-1))))]) (.seq (.seq (rg 16 [oP 16 (.mv (vI 0))]) (.block 0 (.cn [1,2,7,9,13,14,15,16] (.sub 0 zbm_b0)))) (.seq (rg 18 [oM 80 t7,oM 81 t1,oP 82 (.call 12 [t80,t81]),oM 79 t82,oP 83 (.extract t79 0),oP 84 (.extract t79 1),oP 17 (.alloc 41 [.slice none 0 0,.int .i64 0,.string ⟨#[]⟩,.bool false,.string ⟨#[]⟩,.bool false,.string ⟨#[]⟩,.bool false,.slice none 0 0,.bool false]),oN (.store 10 t17 t83),oM 18 t84]) (.seq (.block 2 (.seq (rg 85 [oM 86 t14,oP 87 (.bi .eql t86 (vI 0)),oM 85 t87]) (.cond t85 (.seq (rg 6 [oM 88 t18,oP 89 (.bi .eql t88 (vI 103)),oM 90 t89,oF 91 (.load (some 10) t17) 90,oF 92 (.build [.slice none 0 0,.int .i64 0,.string ⟨#[]⟩,.bool false,.string ⟨#[]⟩,.bool false,.string ⟨#[]⟩,.bool false,.slice none 0 0,.bool false] []) 90,oF 93 (.call 13 [t91,t92]) 90,oP 94 (.pick t90 t93 vF),oM 6 t94]) (.cn [6] .ret)) (.seq (rg 95 [oM 96 t14,oP 97 (.bi .gtr t96 (vI 1)),oM 95 t97]) (.cond t95 (.seq (rg 6 [oM 98 t18,oP 99 (.bi .eql t98 (vI 104)),oM 100 t99,oF 101 (.load (some 10) t17) 100,oF 102 (.build [.slice none 0 0,.int .i64 0,.string ⟨#[]⟩,.bool false,.string ⟨#[]⟩,.bool false,.string ⟨#[]⟩,.bool false,.slice none 0 0,.bool false] []) 100,oF 103 (.call 13 [t101,t102]) 100,oP 104 (.pick t100 t103 vF),oM 6 t104]) (.cn [6] .ret)) .skip))))) (.seq (.seq (.reg 128 (some [0,1,2,3,4,5,6,7,8,9,10,11,12,13,14,15,16,17,18,20,19,21,22,23]) [oM 105 t18,oP 106 (.bi .neq t105 (vI 0)),oM 107 t106,oE 108 (.faddr 3 t17) 107,oE 109 (.load none t108) 107,oE 110 (.un .not t109) 107,oP 111 (.pick t107 vT t110),oM 112 t111,oE 113 (.faddr 2 t17) 112,oE 114 (.load none t113) 112,oE 115 (.mv t1) 112,oE 116 (.bi .neq t114 t115) 112,oP 117 (.pick t112 vT t116),oM 118 t117,oE 119 (.faddr 0 t17) 118,oE 120 (.load none t119) 118,oE 121 (.len t120) 118,oE 122 (.mv t9) 118,oE 123 (.mv t15) 118,oE 125 (.mv t15) 118,oE 124 (.call 14 [t122,t123]) 118,oE 126 (.bi .sub t124 t125) 118,oE 127 (.bi .neq t121 t126) 118,oP 128 (.pick t118 vT t127)]) (.cond t128 (.seq (rg 6 [oP 6 (.mv vF)]) (.cn [6] .ret)) .skip)) (.seq (rg 19 [oP 129 (.load (some 10) t17),oM 130 t2,oP 131 (.call 15 [t129,t130]),oM 19 t131]) (.seq (.seq (rg 141 [oM 132 t9,oM 133 t15,oM 134 t2,oP 135 (.call 16 [t132,t133,t134]),oM 136 t135,oF 137 (.mv t9) 136,oF 138 (.mv t15) 136,oF 139 (.mv t2) 136,oF 140 (.call 17 [t137,t138,t139]) 136,oP 141 (.pick t136 t140 vF)]) (.cond t141 (.seq (rg 6 [oM 142 t19,oP 143 (.bi .eql t142 (vI 0)),oM 6 t143]) (.cn [6] .ret)) .skip)) (.seq (rg 6 [oM 144 t19,oP 145 (.bi .eql t144 (vI 105)),oM 6 t145]) (.cn [6] .ret))))))))))))))))))))
theorem zbm_chk:chk Tryd.prog 3 []=some (zbm_q.erase,[.tmp 6],146):=by kernel_rfl
def qDl (kid:BA) (n at_ i:Int) (v:List Eng.Node) (kids:List Int):Option ((Int × Int × Int) ⊕ (Int × Int)) :=
 bif decide (i<(kids.length:Int)) then (
  gd (0≤i∧i<kids.length) <|
  gd ((Int.toNat i)<kids.length) <|
  (zbq_s v (kids.getD (Int.toNat i) (ET.dft .i64)) (⟨#[107,105,100]⟩:BA) kid).bind fun r24 =>
  bif r24 then (
   gd (qAj (n+(1:Int))) <|
   gd (0≤i∧i<kids.length) <|
   gd ((Int.toNat i)<kids.length) <|
   gd (qAj (i+(1:Int))) <|
   some (.inl ((n+(1:Int)),(kids.getD (Int.toNat i) (ET.dft .i64)),(i+(1:Int)))))
  else (
   gd (qAj (i+(1:Int))) <|
   some (.inl (n,at_,(i+(1:Int))))))
 else (
  some (.inr (n,at_)))
def zbm_p0 (kid:BA) (n at_ i:Int) (v:List Eng.Node) (kids:List Int):Option (Int × Int) :=
 qBh (fun x:(Int × Int × Int)=>qDl kid x.1 x.2.1 x.2.2 v kids) (n,at_,i)
def zbm_s (doc kid:BA) (a:Int):Option Bool :=
 (zbo_s).bind fun r19 =>
 bif (!r19) then (
  some false)
 else (
  (zbg_s doc).bind fun r20 =>
  bif (!decide (r20.2=(0:Int))) then (
   some (decide ((r20.1.length:Int)=(0:Int))))
  else (
   (zai_s doc).bind fun r21 =>
   bif (!decide (r21.2.1=(0:Int))) then (
    some false)
   else (
    (qEv r21.1 (0:Int) (⟨#[107,101,121,115]⟩:BA)).bind fun r22 =>
    gd ((decide (r22<(0:Int)))=false→0≤r22∧r22<r21.1.length) <|
    gd ((decide (r22<(0:Int)))=false→(Int.toNat r22)<r21.1.length) <|
    gd ((decide (r22<(0:Int)))=false→(Int.toNat r22)<r21.1.length) <|
    bif ((decide (r22<(0:Int))) || (!decide (((r21.1.getD (Int.toNat r22) (ET.dft .node)).kind)=(6:Int)))) then (
     some false)
    else (
     (zag_s r21.1 r22).bind fun r23 =>
     bif (!decide ((r23.length:Int)=(r20.1.length:Int))) then (
      some false)
     else (
      (zbm_p0 kid (0:Int) (-1:Int) (0:Int) r21.1 r23).bind fun o25 =>
      (zbf_s r20.1 kid).bind fun r26 =>
      bif decide (o25.1=(0:Int)) then (
       bif decide (r26.2=(103:Int)) then (
        (zbr_s r26.1 (⟨[],(0:Int),(⟨#[]⟩:BA),false,(⟨#[]⟩:BA),false,(⟨#[]⟩:BA),false,[],false⟩:qGc)).bind fun r27 =>
        some r27)
       else (
        some false))
      else (
       bif decide ((1:Int)<o25.1) then (
        bif decide (r26.2=(104:Int)) then (
         (zbr_s r26.1 (⟨[],(0:Int),(⟨#[]⟩:BA),false,(⟨#[]⟩:BA),false,(⟨#[]⟩:BA),false,[],false⟩:qGc)).bind fun r28 =>
         some r28)
        else (
         some false))
       else (
        (zaf_s r21.1 o25.2).bind fun r29 =>
        gd ((((!decide (r26.2=(0:Int))) || (!r26.1.hasKid)) || (!decide (r26.1.kid=kid)))=false→qAj (r29 - o25.2)) <|
        bif ((((!decide (r26.2=(0:Int))) || (!r26.1.hasKid)) || (!decide (r26.1.kid=kid))) || (!decide ((r26.1.value.length:Int)=(r29 - o25.2)))) then (
         some false)
        else (
         (zbe_s r26.1 a).bind fun r30 =>
         (zbp_s r21.1 o25.2 a).bind fun r31 =>
         bif r31 then (
          (zbn_s r21.1 o25.2 a).bind fun r32 =>
          bif r32 then (
           some (decide (r30=(0:Int))))
          else (
           some (decide (r30=(105:Int)))))
         else (
          some (decide (r30=(105:Int))))))))))))
def zbm_G:Nat→Option CQ:=tblQ [(6,zbo_w),(7,zbg_w),(8,zai_w),(9,zah_w),(10,zag_w),(11,zbq_w),(12,zbf_w),(13,zbr_w),(14,zaf_w),(15,zbe_w),(16,zbp_w),(17,zbn_w)]
theorem zbm_Gok:∀f C,zbm_G f=some C→qAe Tryd.prog f C:=qAi ⟨zbo_ok,zbg_ok,zai_ok,zah_ok,zag_ok,zbq_ok,zbf_ok,zbr_ok,zaf_ok,zbe_ok,zbp_ok,zbn_ok,tV⟩
def zbm_d0:=(dQS (qAb (dSO 1 dS) (qAb (dSO 2 dZ) (qAb (dSO 7 (dBsl 0)) (qAb (dSO 9 (dO 1)) (qAb (dSO 13 (dO 2)) (qAb (dSO 14 dZ) (qAb (dSO 15 dZ) (qAb (dSO 16 dZ) dNil)))))))) (qAb zDJK1 (qAb (dRow .node 34) (qAb (dRow .i64 3) dNil))))
def zbm_l0:SubQ:=mkL zbm_d0 (fun x=>zbm_p0 x.1.1 x.1.2.2.2.2.2.1 x.1.2.2.2.2.2.2.1 x.1.2.2.2.2.2.2.2.1 x.2.2.1 x.2.2.2.1) fun x r R kn kx kr=>kx 0 ⟨[sL 1 (.vS x.1.1),sL 2 (.vI x.1.2.1),sL 7 (.bsl 0),sL 9 (.own 1),sL 14 (.vI r.1),sL 15 (.vI r.2)],[],[.bag [.rw .node,.int .i64,.str,.bool,.str,.bool,.str,.bool,.rw .str,.bool] 41 x.2.1,.row .node 34 x.2.2.1]⟩
def zbm_L:Nat→SubQ:=tblL [(0,zbm_l0)]
theorem zbm_sub0:qBr zbm_L zbm_G 0 20 146 0 zbm_b0:=qAu (show zbm_L 0=zbm_l0 from by kernel_rfl) fun x R kn kx kr=>qAs (step:=fun y=>qDl x.1.1 y.1 y.2.1 y.2.2 x.2.2.1 x.2.2.2.1) (enc:=fun (y:Int × Int × Int)=>zbm_d0.e ((x.1.1,x.1.2.1,x.1.2.2.1,x.1.2.2.2.1,x.1.2.2.2.2.1,y.1,y.2.1,y.2.2,x.1.2.2.2.2.2.2.2.2),x.2)) (fun y=>by kernel_rfl) (fun y ki=>by simp only [qDl,-eq_self,qAd,qAg,obA,obS,slL,slR,qAc]; kernel_rfl) (x.1.2.2.2.2.2.1,x.1.2.2.2.2.2.2.1,x.1.2.2.2.2.2.2.2.1)
theorem zbm_subs:qAo zbm_L zbm_G 0 20 146 zbm_q:=qAk (show qAp zbm_L zbm_G 0 20 146 [(0,zbm_b0)] from ⟨zbm_sub0,tV⟩)
def zbm_da:=(qAb (dVC (dCO dS)) (qAb (dVC (dCO dS)) (qAb (dVC (dCO dZ)) dNil)))
def zbm_db:=(dNil:Dec Unit (List SB))
def zbm_c:CS:=mkC zbm_da zbm_db (fun x y=>zbm_s x.1 x.2.1 x.2.2.1) (fun x y r=>.c (.o (.vB r))) fun x y r=>[]
theorem zbm_val:qAl Tryd.prog 3 zbm_c:=qAm zbm_chk 20 zbm_Gok 0 (fun x=>Nat.le_of_ble_eq_true rfl) (fun y=>rfl) zbm_subs fun x y=>by
 simp only [zbm_s,-eq_self,qAd,qAg,obA,obS,slL,slR,qAc];kernel_rfl
end
end Go.Proofs.YtnifdcmeffnpaaaDoor
