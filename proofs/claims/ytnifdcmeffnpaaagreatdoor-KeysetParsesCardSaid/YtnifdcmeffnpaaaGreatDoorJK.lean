/-
  Functions as the engine reads them (printed by gen.py).
-/
import Derived.Test.YtnifdcmeffnpaaaGreatDoorEngO
import Derived.Test.YtnifdcmeffnpaaaGreatDoorProg
import Derived.Test.YtnifdcmeffnpaaaGreatDoorJS
import Derived.Test.YtnifdcmeffnpaaaGreatDoorGC
import Derived.Test.YtnifdcmeffnpaaaGreatDoorJP
import Derived.Test.YtnifdcmeffnpaaaGreatDoorJQ
namespace Go.Proofs.YtnifdcmeffnpaaaGreatDoor
open Go.Eng
set_option linter.unusedVariables false
set_option linter.unusedSimpArgs false
set_option maxRecDepth 100000
noncomputable section
structure keyset_reader where
 v:(List Eng.Node)
 at_:Int
 bad:Bool
structure qHb where
 value:(List Eng.Node)
 kty:Int
 kid:BA
 hasKid:Bool
 use:BA
 hasUse:Bool
 alg:BA
 hasAlg:Bool
 ops:(List BA)
 hasOps:Bool
def zbh_q:IQ:=(.seq (rg 5 [oP 4 (.mv (.v (.string ⟨#[]⟩))),oP 5 (.mv vF)]) (.seq (.reg 6 (some [0,1,2,3,4,5,6,7,8,9,10]) (rF 7 t0 0++rF 11 t0 1++[oM 15 t1,oP 16 (.call 8 [t10,t14,t15]),oM 6 t16])) (.seq (.seq (rg 18 [oM 17 t6,oP 18 (.bi .lss t17 (vI 0))]) (.cond t18 (.seq (rg 5 [oP 4 (.mv (.v (.string ⟨#[]⟩))),oP 5 (.mv vF)]) (.cn [4,5] .ret)) .skip)) (.seq (.seq (rg 27 (rF 19 t0 0++[oM 23 t6,oP 24 (.iaddr 6 t22 t23),oP 25 (.faddr 0 t24),oP 26 (.load none t25),oP 27 (.bi .neq t26 (vI 5))])) (.cond t27 (.seq (rg 0 ([oM 28 t0]++rS 29 t28 2 vT)) (.seq (rg 5 [oP 4 (.mv (.v (.string ⟨#[]⟩))),oP 5 (.mv vF)]) (.cn [4,5] .ret))) .skip)) (.seq (rg 5 (rF 31 t0 0++[oM 35 t6,oP 36 (.iaddr 6 t34 t35),oP 37 (.faddr 2 t36),oP 38 (.load none t37),oM 4 t38,oP 5 (.mv vT)])) (.cn [4,5] .ret))))))
theorem zbh_chk:chk Tryz.prog 19 []=some (zbh_q.erase,[.tmp 4,.tmp 5],39):=by kernel_rfl
def zbh_s (r_:keyset_reader) (name:BA):Option (keyset_reader × BA × Bool) :=
 (zah_s r_.v r_.at_ name).bind fun r2 =>
 bif decide (r2<(0:Int)) then (
  some (r_,(⟨#[]⟩:BA),false))
 else (
  gd (0≤r2∧r2<r_.v.length) <|
  gd ((Int.toNat r2)<r_.v.length) <|
  gd ((Int.toNat r2)<r_.v.length) <|
  bif (!decide (((r_.v.getD (Int.toNat r2) (ET.dft .node)).kind)=(5:Int))) then (
   some ((⟨r_.v,r_.at_,true⟩:keyset_reader),(⟨#[]⟩:BA),false))
  else (
   gd (0≤r2∧r2<r_.v.length) <|
   gd ((Int.toNat r2)<r_.v.length) <|
   gd ((Int.toNat r2)<r_.v.length) <|
   some (r_,(r_.v.getD (Int.toNat r2) (ET.dft .node)).text,true)))
def zbh_G:Nat→Option CQ:=tblQ [(8,zah_w)]
theorem zbh_Gok:∀f C,zbh_G f=some C→qAg Tryz.prog f C:=qAj ⟨zah_ok,tV⟩
def zbh_L:Nat→SubQ:=tblL []
theorem zbh_subs:qAn zbh_L zbh_G 2 7 39 zbh_q:=qAk (show qAq zbh_L zbh_G 2 7 39 [] from tV)
def zbh_da:=(qAb (dVC (dCO (dH 0 0))) (qAb (dVC (dCO dS)) dNil))
def zDJK3:=(qGy 52 (qAb (dO 1) (qAb dZ (qAb dB dNil))))
def zbh_db:=(qAb zDJK3 (qAb (qBi .node) dNil))
def zbh_c:CS:=mkC zbh_da zbh_db (fun x y=>zbh_s (⟨y.2.1,y.1.2.1,y.1.2.2.1⟩:keyset_reader) x.2.1) (fun x y r=>.tup [.o (.vS r.2.1),.o (.vB r.2.2)]) fun x y r=>[.cells 52 [.own 1,.vI r.1.at_,.vB r.1.bad],.view .node y.2.1]
theorem zbh_val:qAl Tryz.prog 19 zbh_c:=qAm zbh_chk 7 zbh_Gok 2 (fun x=>Nat.le_of_ble_eq_true rfl) (fun y=>rfl) zbh_subs fun x y=>by
 simp only [zbh_s,-eq_self,qAd,qAf,obA,obS,slL,slR,qAc];kernel_rfl
def zbh_w:CQ:=qBm [(0,some 0,some (.node,34))] (qBr [true,false] zbh_c)
theorem zbh_ok:qAg Tryz.prog 19 zbh_w:=qAu zbh_val
def zbg_q:IQ:=(.seq (rg 2 [oP 2 (.mv (vI 0))]) (.seq (.seq (rg 3 [oM 3 t0]) (.block 0 (.seq (rg 4 [oP 5 (.bi .eql t3 (.v (.string ⟨#[111,99,116]⟩))),oM 4 t5]) (.cond t4 (.seq (rg 2 [oP 2 (.mv (vI 1))]) (.cn [2] .ret)) (.seq (rg 6 [oP 7 (.bi .eql t3 (.v (.string ⟨#[82,83,65]⟩))),oM 6 t7]) (.cond t6 (.seq (rg 2 [oP 2 (.mv (vI 2))]) (.cn [2] .ret)) (.seq (rg 8 [oP 9 (.bi .eql t3 (.v (.string ⟨#[69,67]⟩))),oM 8 t9]) (.cond t8 (.seq (rg 2 [oP 2 (.mv (vI 3))]) (.cn [2] .ret)) (.seq (rg 10 [oP 11 (.bi .eql t3 (.v (.string ⟨#[79,75,80]⟩))),oM 10 t11]) (.cond t10 (.seq (rg 2 [oP 2 (.mv (vI 4))]) (.cn [2] .ret)) .skip)))))))))) (.seq (rg 2 [oP 2 (.mv (vI 0))]) (.cn [2] .ret))))
theorem zbg_chk:chk Tryz.prog 20 []=some (zbg_q.erase,[.tmp 2],12):=by kernel_rfl
def zbg_s (s:BA):Option Int :=
 bif decide (s=(⟨#[111,99,116]⟩:BA)) then (
  some (1:Int))
 else (
  bif decide (s=(⟨#[82,83,65]⟩:BA)) then (
   some (2:Int))
  else (
   bif decide (s=(⟨#[69,67]⟩:BA)) then (
    some (3:Int))
   else (
    bif decide (s=(⟨#[79,75,80]⟩:BA)) then (
     some (4:Int))
    else (
     some (0:Int)))))
def zbg_G:Nat→Option CQ:=tblQ []
theorem zbg_Gok:∀f C,zbg_G f=some C→qAg Tryz.prog f C:=fun f C h=>by cases h
def zbg_L:Nat→SubQ:=tblL []
theorem zbg_subs:qAn zbg_L zbg_G 0 4 12 zbg_q:=qAk (show qAq zbg_L zbg_G 0 4 12 [] from tV)
def zbg_da:=(qAb (dVC (dCO dS)) dNil)
def zbg_db:=(dNil:Dec Unit (List SB))
def zbg_c:CS:=mkC zbg_da zbg_db (fun x y=>zbg_s x.1) (fun x y r=>.c (.o (.vI r))) fun x y r=>[]
theorem zbg_val:qAl Tryz.prog 20 zbg_c:=qAm zbg_chk 4 zbg_Gok 0 (fun x=>Nat.le_of_ble_eq_true rfl) (fun y=>rfl) zbg_subs fun x y=>by
 simp only [zbg_s,-eq_self,qAd,qAf,obA,obS,slL,slR,qAc];kernel_rfl
def zbg_w:CQ:=qCj [] zbg_c
theorem zbg_ok:qAg Tryz.prog 20 zbg_w:=qAx zbg_val
def zcw_b0:IQ:=(.loop [0,1,7,8] (.seq (rg 9 [oP 9 (.bi .lss t8 t7)]) (.seq (.cond t9 .skip (.cn [] (.exit 0))) (.seq (.block 1 (.seq (rg 5 [oM 10 t8,oM 5 t10]) (.seq (rg 16 [oM 11 t1,oM 12 t0,oM 13 t5,oP 14 (.iaddr 1 t12 t13),oP 15 (.load none t14),oP 16 (.bi .eql t11 t15)]) (.cond t16 (.seq (rg 4 [oM 17 t5,oM 4 t17]) (.cn [4] .ret)) .skip)))) (rg 8 [oP 18 (.bi .add t8 (vI 1)),oM 8 t18])))))
def zcw_q:IQ:=(.seq (rg 4 [oP 4 (.mv (vI 0))]) (.seq (.seq (rg 8 [oM 6 t0,oP 7 (.len t6),oP 8 (.mv (vI 0))]) (.block 0 (.cn [0,1,7,8] (.sub 0 zcw_b0)))) (.seq (rg 4 [oP 4 (.mv (.v (.int .i64 (-1))))]) (.cn [4] .ret))))
theorem zcw_chk:chk Tryz.prog 53 []=some (zcw_q.erase,[.tmp 4],19):=by kernel_rfl
def qC8 (v:BA) (x7_ x8_:Int) (s:List BA):Option (Int ⊕ (Int ⊕ Unit)) :=
 bif decide (x8_<x7_) then (
  gd (0≤x8_∧x8_<s.length) <|
  gd ((Int.toNat x8_)<s.length) <|
  bif decide (v=(s.getD (Int.toNat x8_) (ET.dft .str))) then (
   some (.inr (.inl x8_)))
  else (
   gd (qAe (x8_+(1:Int))) <|
   some (.inl (x8_+(1:Int)))))
 else (
  some (.inr (.inr ())))
def zcw_p0 (v:BA) (x7_ x8_:Int) (s:List BA):Option (Int ⊕ Unit) :=
 qA0 (fun x:Int=>qC8 v x7_ x s) x8_
def zcw_s (s:(List BA)) (v:BA):Option Int :=
 (zcw_p0 v (s.length:Int) (0:Int) s).bind fun o1=>(Sum.elim (fun (o1_0:Int) =>
  some o1_0) (fun (o1_1:Unit) =>
  some (-1:Int))) o1
def zcw_G:Nat→Option CQ:=tblQ []
theorem zcw_Gok:∀f C,zcw_G f=some C→qAg Tryz.prog f C:=fun f C h=>by cases h
def zcw_d0:=(dQS (qAb (dSO 0 (dO 0)) (qAb (dSO 1 dS) (qAb (dSO 7 dZ) (qAb (dSO 8 dZ) dNil)))) (qAb (qBi .str) dNil))
def zcw_l0:SubQ:=mkL zcw_d0 (fun x=>zcw_p0 x.1.2.1 x.1.2.2.1 x.1.2.2.2.1 x.2.1) fun x r R kn kx kr=>(Sum.elim (fun (r_0:Int)=>kr ⟨[sL 4 (.vI r_0)],[],[.view .str x.2.1]⟩) (fun (r_1:Unit)=>kx 0 ⟨[],[],[.view .str x.2.1]⟩)) r
def zcw_L:Nat→SubQ:=tblL [(0,zcw_l0)]
theorem zcw_sub0:qA4 zcw_L zcw_G 1 9 19 0 zcw_b0:=qAr (show zcw_L 0=zcw_l0 from by kernel_rfl) fun x R kn kx kr=>qAo (step:=fun y=>qC8 x.1.2.1 x.1.2.2.1 y x.2.1) (enc:=fun (y:Int)=>zcw_d0.e ((x.1.1,x.1.2.1,x.1.2.2.1,y,x.1.2.2.2.2),x.2)) (fun y=>by kernel_rfl) (fun y ki=>by simp only [qC8,-eq_self,qAd,qAf,obA,obS,slL,slR,qAc]; kernel_rfl) x.1.2.2.2.1
theorem zcw_subs:qAn zcw_L zcw_G 1 9 19 zcw_q:=qAk (show qAq zcw_L zcw_G 1 9 19 [(0,zcw_b0)] from ⟨zcw_sub0,tV⟩)
def zcw_da:=(qAb (dVC (dCO (dO 0))) (qAb (dVC (dCO dS)) dNil))
def zcw_db:=(qAb (qBi .str) dNil)
def zcw_c:CS:=mkC zcw_da zcw_db (fun x y=>zcw_s y.1 x.2.1) (fun x y r=>.c (.o (.vI r))) fun x y r=>[.view .str y.1]
theorem zcw_val:qAl Tryz.prog 53 zcw_c:=qAm zcw_chk 9 zcw_Gok 1 (fun x=>Nat.le_of_ble_eq_true rfl) (fun y=>rfl) zcw_subs fun x y=>by
 simp only [zcw_s,-eq_self,qAd,qAf,obA,obS,slL,slR,qAc];kernel_rfl
def zcw_w:CQ:=qBm [(0,none,some (.str,9))] (qCj [false] zcw_c)
theorem zcw_ok:qAg Tryz.prog 53 zcw_w:=qB1 zcw_val
def zcv_q:IQ:=(.seq (rg 4 [oP 4 (.mv vF)]) (.seq (rg 4 [oM 5 t0,oM 6 t1,oP 7 (.call 53 [t5,t6]),oP 8 (.bi .geq t7 (vI 0)),oM 4 t8]) (.cn [4] .ret)))
theorem zcv_chk:chk Tryz.prog 38 []=some (zcv_q.erase,[.tmp 4],9):=by kernel_rfl
def zcv_s (s:(List BA)) (v:BA):Option Bool :=
 (zcw_s s v).bind fun r1 =>
 some (decide ((0:Int)≤r1))
def zcv_G:Nat→Option CQ:=tblQ [(53,zcw_w)]
theorem zcv_Gok:∀f C,zcv_G f=some C→qAg Tryz.prog f C:=qAj ⟨zcw_ok,tV⟩
def zcv_L:Nat→SubQ:=tblL []
theorem zcv_subs:qAn zcv_L zcv_G 1 5 9 zcv_q:=qAk (show qAq zcv_L zcv_G 1 5 9 [] from tV)
def zcv_da:=(qAb (dVC (dCO (dO 0))) (qAb (dVC (dCO dS)) dNil))
def zcv_db:=(qAb (qBi .str) dNil)
def zcv_c:CS:=mkC zcv_da zcv_db (fun x y=>zcv_s y.1 x.2.1) (fun x y r=>.c (.o (.vB r))) fun x y r=>[.view .str y.1]
theorem zcv_val:qAl Tryz.prog 38 zcv_c:=qAm zcv_chk 5 zcv_Gok 1 (fun x=>Nat.le_of_ble_eq_true rfl) (fun y=>rfl) zcv_subs fun x y=>by
 simp only [zcv_s,-eq_self,qAd,qAf,obA,obS,slL,slR,qAc];kernel_rfl
def zcv_w:CQ:=qBm [(0,none,some (.str,9))] (qCj [false] zcv_c)
theorem zcv_ok:qAg Tryz.prog 38 zcv_w:=qB1 zcv_val
def zbi_b0:IQ:=(.loop [0,7,39,40,41] (.seq (rg 42 [oP 42 (.bi .lss t41 t40)]) (.seq (.cond t42 .skip (.cn [7] (.exit 0))) (.seq (.block 1 (.seq (rg 9 [oP 43 (.iaddr 1 t39 t41),oP 44 (.load none t43),oM 9 t44]) (.seq (.seq (rg 65 (rF 45 t0 0++[oM 49 t9,oP 50 (.iaddr 6 t48 t49),oP 51 (.faddr 0 t50),oP 52 (.load none t51),oP 53 (.bi .neq t52 (vI 5)),oM 54 t53,oE 55 (.mv t7) 54]++rH oE 56 t0 0 54++[oE 60 (.mv t9) 54,oE 61 (.iaddr 6 t59 t60) 54,oE 62 (.faddr 2 t61) 54,oE 63 (.load none t62) 54,oE 64 (.call 38 [t55,t63]) 54,oP 65 (.pick t54 vT t64)])) (.cond t65 (.seq (rg 0 ([oM 66 t0]++rS 67 t66 2 vT)) (.seq (rg 5 [oP 4 (.mv (.v (.slice none 0 0))),oP 5 (.mv vF)]) (.canon [(4,none,.str,9)] [4,5] .ret))) .skip)) (rg 7 ([oM 69 t7]++rF 70 t0 0++[oM 74 t9,oP 75 (.iaddr 6 t73 t74),oP 76 (.faddr 2 t75),oP 77 (.load none t76),oP 78 (.bslice 9 1 1 [.string ⟨#[]⟩] [(0,t77)]),oP 79 (.append 9 1 16 [.string ⟨#[]⟩] t69 t78),oM 7 t79]))))) (rg 41 [oP 80 (.bi .add t41 (vI 1)),oM 41 t80])))))
def zbi_q:IQ:=(.seq (rg 5 [oP 4 (.mv (.v (.slice none 0 0))),oP 5 (.mv vF)]) (.seq (.reg 6 (some [0,1,2,3,4,5,6,7,8,9,10]) (rF 10 t0 0++rF 14 t0 1++[oM 18 t1,oP 19 (.call 8 [t13,t17,t18]),oM 6 t19])) (.seq (.seq (rg 21 [oM 20 t6,oP 21 (.bi .lss t20 (vI 0))]) (.cond t21 (.seq (rg 5 [oP 4 (.mv (.v (.slice none 0 0))),oP 5 (.mv vF)]) (.canon [(4,none,.str,9)] [4,5] .ret)) .skip)) (.seq (.seq (rg 30 (rF 22 t0 0++[oM 26 t6,oP 27 (.iaddr 6 t25 t26),oP 28 (.faddr 0 t27),oP 29 (.load none t28),oP 30 (.bi .neq t29 (vI 6))])) (.cond t30 (.seq (rg 0 ([oM 31 t0]++rS 32 t31 2 vT)) (.seq (rg 5 [oP 4 (.mv (.v (.slice none 0 0))),oP 5 (.mv vF)]) (.canon [(4,none,.str,9)] [4,5] .ret))) .skip)) (.seq (rg 7 [oP 7 (.mv (.v (.slice none 0 0)))]) (.seq (.seq (rg 41 (rF 34 t0 0++[oM 38 t6,oP 39 (.call 9 [t37,t38]),oP 40 (.len t39),oP 41 (.mv (vI 0))])) (.block 0 (.canon [(7,none,.str,9)] [0,7,39,40,41] (.sub 0 zbi_b0)))) (.seq (rg 5 [oM 81 t7,oM 4 t81,oP 5 (.mv vT)]) (.canon [(4,none,.str,9)] [4,5] .ret))))))))
theorem zbi_chk:chk Tryz.prog 21 []=some (zbi_q.erase,[.tmp 4,.tmp 5],82):=by kernel_rfl
def qDe (x40_ x41_:Int) (r__v:List Eng.Node) (out:List BA) (x39_:List Int):Option ((Int × (List BA)) ⊕ ((Bool × Bool × (List BA)) ⊕ ((List BA)))) :=
 bif decide (x41_<x40_) then (
  gd (0≤x41_∧x41_<x39_.length) <|
  gd ((Int.toNat x41_)<x39_.length) <|
  gd (0≤(x39_.getD (Int.toNat x41_) (ET.dft .i64))∧(x39_.getD (Int.toNat x41_) (ET.dft .i64))<r__v.length) <|
  gd ((Int.toNat (x39_.getD (Int.toNat x41_) (ET.dft .i64)))<r__v.length) <|
  gd ((Int.toNat (x39_.getD (Int.toNat x41_) (ET.dft .i64)))<r__v.length) <|
  gd ((!decide (((r__v.getD (Int.toNat (x39_.getD (Int.toNat x41_) (ET.dft .i64))) (ET.dft .node)).kind)=(5:Int)))=false→0≤(x39_.getD (Int.toNat x41_) (ET.dft .i64))∧(x39_.getD (Int.toNat x41_) (ET.dft .i64))<r__v.length) <|
  gd ((!decide (((r__v.getD (Int.toNat (x39_.getD (Int.toNat x41_) (ET.dft .i64))) (ET.dft .node)).kind)=(5:Int)))=false→(Int.toNat (x39_.getD (Int.toNat x41_) (ET.dft .i64)))<r__v.length) <|
  gd ((!decide (((r__v.getD (Int.toNat (x39_.getD (Int.toNat x41_) (ET.dft .i64))) (ET.dft .node)).kind)=(5:Int)))=false→(Int.toNat (x39_.getD (Int.toNat x41_) (ET.dft .i64)))<r__v.length) <|
  bif (!decide (((r__v.getD (Int.toNat (x39_.getD (Int.toNat x41_) (ET.dft .i64))) (ET.dft .node)).kind)=(5:Int))) then (
   some (.inr (.inl (false,true,[]))))
  else (
   (zcv_s out ((r__v.getD (Int.toNat (x39_.getD (Int.toNat x41_) (ET.dft .i64))) (ET.dft .node)).text)).bind fun r13 =>
   bif r13 then (
    some (.inr (.inl (false,true,[]))))
   else (
    gd (0≤(x39_.getD (Int.toNat x41_) (ET.dft .i64))∧(x39_.getD (Int.toNat x41_) (ET.dft .i64))<r__v.length) <|
    gd ((Int.toNat (x39_.getD (Int.toNat x41_) (ET.dft .i64)))<r__v.length) <|
    gd ((Int.toNat (x39_.getD (Int.toNat x41_) (ET.dft .i64)))<r__v.length) <|
    gd (out.length+([(r__v.getD (Int.toNat (x39_.getD (Int.toNat x41_) (ET.dft .i64))) (ET.dft .node)).text]:List BA).length≤9223372036854775807∧(out.length+([(r__v.getD (Int.toNat (x39_.getD (Int.toNat x41_) (ET.dft .i64))) (ET.dft .node)).text]:List BA).length)*16≤140737488355328) <|
    gd (qAe (x41_+(1:Int))) <|
    some (.inl ((x41_+(1:Int)),(out++[(r__v.getD (Int.toNat (x39_.getD (Int.toNat x41_) (ET.dft .i64))) (ET.dft .node)).text]))))))
 else (
  some (.inr (.inr out)))
def zbi_p0 (x40_ x41_:Int) (r__v:List Eng.Node) (out:List BA) (x39_:List Int):Option ((Bool × Bool × (List BA)) ⊕ ((List BA))) :=
 qA0 (fun x:(Int × (List BA))=>qDe x40_ x.1 r__v x.2 x39_) (x41_,out)
def zbi_s (r_:keyset_reader) (name:BA):Option (keyset_reader × (List BA) × Bool) :=
 (zah_s r_.v r_.at_ name).bind fun r11 =>
 bif decide (r11<(0:Int)) then (
  some (r_,[],false))
 else (
  gd (0≤r11∧r11<r_.v.length) <|
  gd ((Int.toNat r11)<r_.v.length) <|
  gd ((Int.toNat r11)<r_.v.length) <|
  bif (!decide (((r_.v.getD (Int.toNat r11) (ET.dft .node)).kind)=(6:Int))) then (
   some ((⟨r_.v,r_.at_,true⟩:keyset_reader),[],false))
  else (
   (zag_s r_.v r11).bind fun r12 =>
   (zbi_p0 (r12.length:Int) (0:Int) r_.v [] r12).bind fun o14=>(Sum.elim (fun (o14_0:Bool × Bool × (List BA)) =>
    some ((⟨r_.v,r_.at_,o14_0.2.1⟩:keyset_reader),o14_0.2.2,o14_0.1)) (fun (o14_1:(List BA)) =>
    some (r_,o14_1,true))) o14))
def zbi_G:Nat→Option CQ:=tblQ [(8,zah_w),(9,zag_w),(38,zcv_w)]
theorem zbi_Gok:∀f C,zbi_G f=some C→qAg Tryz.prog f C:=qAj ⟨zah_ok,zag_ok,zcv_ok,tV⟩
def zDJK2:=(qAb (qBi .node) (qAb (dRow .str 9) (qAb (dRow .i64 3) dNil)))
def zbi_d0:=(dQS (qAb (dSO 0 (dH 0 0)) (qAb (dSO 7 (dO 2)) (qAb (dSO 39 (dO 3)) (qAb (dSO 40 dZ) (qAb (dSO 41 dZ) dNil))))) (qAb zDJK3 zDJK2))
def zbi_l0:SubQ:=mkL zbi_d0 (fun x=>zbi_p0 x.1.2.2.2.1 x.1.2.2.2.2.1 x.2.2.1 x.2.2.2.1 x.2.2.2.2.1) fun x r R kn kx kr=>(Sum.elim (fun (r_0:Bool × Bool × (List BA))=>kr ⟨[sL 4 (.own 2),sL 5 (.vB r_0.1)],[],[.cells 52 [.own 1,.vI x.2.1.2.1,.vB r_0.2.1],.view .node x.2.2.1,.row .str 9 r_0.2.2]⟩) (fun (r_1:(List BA))=>kx 0 ⟨[sL 7 (.own 2)],[],[.cells 52 [.own 1,.vI x.2.1.2.1,.vB x.2.1.2.2.1],.view .node x.2.2.1,.row .str 9 r_1]⟩)) r
def zbi_L:Nat→SubQ:=tblL [(0,zbi_l0)]
theorem zbi_sub0:qA4 zbi_L zbi_G 2 42 82 0 zbi_b0:=qAr (show zbi_L 0=zbi_l0 from by kernel_rfl) fun x R kn kx kr=>qAo (step:=fun y=>qDe x.1.2.2.2.1 y.1 x.2.2.1 y.2 x.2.2.2.2.1) (enc:=fun (y:Int × (List BA))=>zbi_d0.e ((x.1.1,x.1.2.1,x.1.2.2.1,x.1.2.2.2.1,y.1,x.1.2.2.2.2.2),(x.2.1,x.2.2.1,y.2,x.2.2.2.2))) (fun y=>by kernel_rfl) (fun y ki=>by simp only [qDe,-eq_self,qAd,qAf,obA,obS,slL,slR,qAc]; kernel_rfl) (x.1.2.2.2.2.1,x.2.2.2.1)
theorem zbi_subs:qAn zbi_L zbi_G 2 42 82 zbi_q:=qAk (show qAq zbi_L zbi_G 2 42 82 [(0,zbi_b0)] from ⟨zbi_sub0,tV⟩)
def zbi_da:=(qAb (dVC (dCO (dH 0 0))) (qAb (dVC (dCO dS)) dNil))
def zbi_db:=(qAb zDJK3 (qAb (qBi .node) dNil))
def zbi_c:CS:=mkC zbi_da zbi_db (fun x y=>zbi_s (⟨y.2.1,y.1.2.1,y.1.2.2.1⟩:keyset_reader) x.2.1) (fun x y r=>.tup [.o (.own 2),.o (.vB r.2.2)]) fun x y r=>[.cells 52 [.own 1,.vI r.1.at_,.vB r.1.bad],.view .node y.2.1,.row .str 9 r.2.1]
theorem zbi_val:qAl Tryz.prog 21 zbi_c:=qAm zbi_chk 42 zbi_Gok 2 (fun x=>Nat.le_of_ble_eq_true rfl) (fun y=>rfl) zbi_subs fun x y=>by
 simp only [zbi_s,-eq_self,qAd,qAf,obA,obS,slL,slR,qAc];kernel_rfl
def zbi_w:CQ:=qBm [(0,some 0,some (.node,34))] (qBr [true,false] zbi_c)
theorem zbi_ok:qAg Tryz.prog 21 zbi_w:=qAu zbi_val
def zcu_q:IQ:=(.seq (rg 2 [oP 2 (.mv (.v (.slice none 0 0)))]) (.seq (.seq (rg 4 [oM 3 t0,oP 4 (.ext (.snil false) [t3])]) (.cond t4 (.seq (rg 2 [oP 2 (.mv (.v (.slice none 0 0)))]) (.cn [2] .ret)) .skip)) (.seq (rg 2 [oP 5 (.bslice 34 6 0 [.int .i64 0,.string ⟨#[]⟩,.string ⟨#[]⟩,.bool false,.int .i64 0,.int .i64 0] []),oM 6 t0,oP 7 (.append 34 6 64 [.int .i64 0,.string ⟨#[]⟩,.string ⟨#[]⟩,.bool false,.int .i64 0,.int .i64 0] t5 t6),oM 2 t7]) (.canon [(2,none,.node,34)] [2] .ret))))
theorem zcu_chk:chk Tryz.prog 22 []=some (zcu_q.erase,[.tmp 2],8):=by kernel_rfl
def zcu_s (s:(List Eng.Node)):Option ((List Eng.Node)) :=
 gd (0<s.length) <|
 gd (([]:List Eng.Node).length+s.length≤9223372036854775807∧(([]:List Eng.Node).length+s.length)*64≤140737488355328) <|
 some ([]++s)
def zcu_G:Nat→Option CQ:=tblQ []
theorem zcu_Gok:∀f C,zcu_G f=some C→qAg Tryz.prog f C:=fun f C h=>by cases h
def zcu_L:Nat→SubQ:=tblL []
theorem zcu_subs:qAn zcu_L zcu_G 1 3 8 zcu_q:=qAk (show qAq zcu_L zcu_G 1 3 8 [] from tV)
def zcu_da:=(qAb (dVC (dCO (dO 0))) dNil)
def zcu_db:=(qAb (qBi .node) dNil)
def zcu_c:CS:=mkC zcu_da zcu_db (fun x y=>zcu_s y.1) (fun x y r=>.c (.o (.own 1))) fun x y r=>[.view .node y.1,.row .node 34 r]
theorem zcu_val:qAl Tryz.prog 22 zcu_c:=qAm zcu_chk 3 zcu_Gok 1 (fun x=>Nat.le_of_ble_eq_true rfl) (fun y=>rfl) zcu_subs fun x y=>by
 simp only [zcu_s,-eq_self,qAd,qAf,obA,obS,slL,slR,qAc];kernel_rfl
def zcu_w:CQ:=qBm [(0,none,some (.node,34))] (qBr [false] zcu_c)
theorem zcu_ok:qAg Tryz.prog 22 zcu_w:=qAu zcu_val
def zbf_q:IQ:=(.seq (rg 5 [oP 4 (.alloc 40 [.slice none 0 0,.int .i64 0,.string ⟨#[]⟩,.bool false,.string ⟨#[]⟩,.bool false,.string ⟨#[]⟩,.bool false,.slice none 0 0,.bool false]),oP 5 (.mv vF)]) (.seq (rg 6 [oM 10 t0,oM 11 t1,oP 12 (.build [.slice none 0 0,.int .i64 0,.bool false] [(0,1,t10),(1,1,t11)]),oP 13 (.box 52 3 t12),oM 6 t13]) (.seq (.seq (rg 19 [oM 14 t0,oM 15 t1,oP 16 (.iaddr 6 t14 t15),oP 17 (.faddr 0 t16),oP 18 (.load none t17),oP 19 (.bi .neq t18 (vI 7))]) (.cond t19 (.seq (rg 5 [oP 20 (.build [.slice none 0 0,.int .i64 0,.string ⟨#[]⟩,.bool false,.string ⟨#[]⟩,.bool false,.string ⟨#[]⟩,.bool false,.slice none 0 0,.bool false] []),oN (.store 10 t4 t20),oP 5 (.mv vF)]) (.canon [(4,some 0,.node,34),(4,some 8,.str,9)] [4,5] .ret)) .skip)) (.seq (rg 8 [oM 22 t6,oP 23 (.call 19 [t22,(.v (.string ⟨#[107,116,121]⟩))]),oM 21 t23,oP 24 (.extract t21 0),oP 25 (.extract t21 1),oM 7 t24,oM 8 t25]) (.seq (.seq (rg 27 [oM 26 t8,oP 27 (.un .not t26)]) (.cond t27 (.seq (rg 5 [oP 28 (.build [.slice none 0 0,.int .i64 0,.string ⟨#[]⟩,.bool false,.string ⟨#[]⟩,.bool false,.string ⟨#[]⟩,.bool false,.slice none 0 0,.bool false] []),oN (.store 10 t4 t28),oP 5 (.mv vF)]) (.canon [(4,some 0,.node,34),(4,some 8,.str,9)] [4,5] .ret)) .skip)) (.seq (rg 0 [oM 29 t7,oP 30 (.call 20 [t29]),oP 31 (.build [.slice none 0 0,.int .i64 0,.string ⟨#[]⟩,.bool false,.string ⟨#[]⟩,.bool false,.string ⟨#[]⟩,.bool false,.slice none 0 0,.bool false] [(1,1,t30)]),oP 9 (.alloc 40 [.slice none 0 0,.int .i64 0,.string ⟨#[]⟩,.bool false,.string ⟨#[]⟩,.bool false,.string ⟨#[]⟩,.bool false,.slice none 0 0,.bool false]),oN (.store 10 t9 t31)]) (.seq (rg 0 [oM 33 t6,oP 34 (.call 19 [t33,(.v (.string ⟨#[107,105,100]⟩))]),oM 32 t34,oP 35 (.extract t32 0),oP 36 (.extract t32 1),oP 37 (.faddr 2 t9),oN (.store 1 t37 t35),oP 38 (.faddr 3 t9),oN (.store 1 t38 t36)]) (.seq (rg 0 [oM 40 t6,oP 41 (.call 19 [t40,(.v (.string ⟨#[117,115,101]⟩))]),oM 39 t41,oP 42 (.extract t39 0),oP 43 (.extract t39 1),oP 44 (.faddr 4 t9),oN (.store 1 t44 t42),oP 45 (.faddr 5 t9),oN (.store 1 t45 t43)]) (.seq (rg 0 [oM 47 t6,oP 48 (.call 19 [t47,(.v (.string ⟨#[97,108,103]⟩))]),oM 46 t48,oP 49 (.extract t46 0),oP 50 (.extract t46 1),oP 51 (.faddr 6 t9),oN (.store 1 t51 t49),oP 52 (.faddr 7 t9),oN (.store 1 t52 t50)]) (.seq (rg 0 [oM 54 t6,oP 55 (.call 21 [t54,(.v (.string ⟨#[107,101,121,95,111,112,115]⟩))]),oM 53 t55,oP 56 (.extract t53 0),oP 57 (.extract t53 1),oP 58 (.faddr 8 t9),oN (.store 1 t58 t56),oP 59 (.faddr 9 t9),oN (.store 1 t59 t57)]) (.seq (.seq (rg 63 (rF 60 t6 2)) (.cond t63 (.seq (rg 5 [oP 64 (.build [.slice none 0 0,.int .i64 0,.string ⟨#[]⟩,.bool false,.string ⟨#[]⟩,.bool false,.string ⟨#[]⟩,.bool false,.slice none 0 0,.bool false] []),oN (.store 10 t4 t64),oP 5 (.mv vF)]) (.canon [(4,some 0,.node,34),(4,some 8,.str,9)] [4,5] .ret)) .skip)) (.seq (rg 0 [oM 65 t0,oM 66 t1,oM 67 t0,oM 68 t1,oP 69 (.call 18 [t67,t68]),oP 70 (.sub (some 6) t65 (some t66) (some t69)),oP 71 (.call 22 [t70]),oP 72 (.faddr 0 t9),oN (.store 1 t72 t71)]) (.seq (rg 0 [oP 73 (.faddr 0 t9),oP 74 (.load none t73),oP 75 (.iaddr 6 t74 (vI 0)),oP 76 (.faddr 1 t75),oN (.store 1 t76 (.v (.string ⟨#[]⟩)))]) (.seq (rg 5 [oP 77 (.load (some 10) t9),oN (.store 10 t4 t77),oP 5 (.mv vT)]) (.canon [(4,some 0,.node,34),(4,some 8,.str,9)] [4,5] .ret)))))))))))))))
theorem zbf_chk:chk Tryz.prog 10 []=some (zbf_q.erase,[.cell 4 (some 10),.tmp 5],78):=by kernel_rfl
def zbf_s (v:(List Eng.Node)) (at_:Int):Option (qHb × Bool) :=
 gd (0≤at_∧at_<v.length) <|
 gd ((Int.toNat at_)<v.length) <|
 gd ((Int.toNat at_)<v.length) <|
 bif (!decide (((v.getD (Int.toNat at_) (ET.dft .node)).kind)=(7:Int))) then (
  some ((⟨[],(0:Int),(⟨#[]⟩:BA),false,(⟨#[]⟩:BA),false,(⟨#[]⟩:BA),false,[],false⟩:qHb),false))
 else (
  (zbh_s (⟨v,at_,false⟩:keyset_reader) (⟨#[107,116,121]⟩:BA)).bind fun r1 =>
  bif (!r1.2.2) then (
   some ((⟨[],(0:Int),(⟨#[]⟩:BA),false,(⟨#[]⟩:BA),false,(⟨#[]⟩:BA),false,[],false⟩:qHb),false))
  else (
   (zbg_s r1.2.1).bind fun r2 =>
   (zbh_s (⟨v,r1.1.at_,r1.1.bad⟩:keyset_reader) (⟨#[107,105,100]⟩:BA)).bind fun r3 =>
   (zbh_s (⟨v,r3.1.at_,r3.1.bad⟩:keyset_reader) (⟨#[117,115,101]⟩:BA)).bind fun r4 =>
   (zbh_s (⟨v,r4.1.at_,r4.1.bad⟩:keyset_reader) (⟨#[97,108,103]⟩:BA)).bind fun r5 =>
   (zbi_s (⟨v,r5.1.at_,r5.1.bad⟩:keyset_reader) (⟨#[107,101,121,95,111,112,115]⟩:BA)).bind fun r6 =>
   bif r6.1.bad then (
    some ((⟨[],(0:Int),(⟨#[]⟩:BA),false,(⟨#[]⟩:BA),false,(⟨#[]⟩:BA),false,[],false⟩:qHb),false))
   else (
    (zaf_s v at_).bind fun r7 =>
    gd (0≤at_∧at_≤r7∧r7≤v.length) <|
    (zcu_s ((v.take (Int.toNat r7)).drop (Int.toNat at_))).bind fun r8 =>
    gd (0≤(0:Int)∧(0:Int)<r8.length) <|
    gd ((Int.toNat (0:Int))<r8.length) <|
    gd ((Int.toNat (0:Int))<r8.length) <|
    some ((⟨(r8.set (Int.toNat (0:Int)) (⟨(r8.getD (Int.toNat (0:Int)) (ET.dft .node)).kind,(⟨#[]⟩:BA),(r8.getD (Int.toNat (0:Int)) (ET.dft .node)).text,(r8.getD (Int.toNat (0:Int)) (ET.dft .node)).whole,(r8.getD (Int.toNat (0:Int)) (ET.dft .node)).int,(r8.getD (Int.toNat (0:Int)) (ET.dft .node)).kids⟩:Eng.Node)),r2,r3.2.1,r3.2.2,r4.2.1,r4.2.2,r5.2.1,r5.2.2,r6.2.1,r6.2.2⟩:qHb),true))))
def zbf_G:Nat→Option CQ:=tblQ [(19,zbh_w),(20,zbg_w),(21,zbi_w),(18,zaf_w),(22,zcu_w)]
theorem zbf_Gok:∀f C,zbf_G f=some C→qAg Tryz.prog f C:=qAj ⟨zbh_ok,zbg_ok,zbi_ok,zaf_ok,zcu_ok,tV⟩
def zbf_L:Nat→SubQ:=tblL []
theorem zbf_subs:qAn zbf_L zbf_G 1 10 78 zbf_q:=qAk (show qAq zbf_L zbf_G 1 10 78 [] from tV)
def zbf_da:=(qAb (dVC (dCO (dO 0))) (qAb (dVC (dCO dZ)) dNil))
def zbf_db:=(qAb (qBi .node) dNil)
def zbf_c:CS:=mkC zbf_da zbf_db (fun x y=>zbf_s y.1 x.2.1) (fun x y r=>.tup [.agg [.own 1,.vI r.1.kty,.vS r.1.kid,.vB r.1.hasKid,.vS r.1.use,.vB r.1.hasUse,.vS r.1.alg,.vB r.1.hasAlg,.own 2,.vB r.1.hasOps],.o (.vB r.2)]) fun x y r=>[.view .node y.1,.row .node 34 r.1.value,.row .str 9 r.1.ops]
theorem zbf_val:qAl Tryz.prog 10 zbf_c:=qAm zbf_chk 10 zbf_Gok 1 (fun x=>Nat.le_of_ble_eq_true rfl) (fun y=>rfl) zbf_subs fun x y=>by
 simp only [zbf_s,-eq_self,qAd,qAf,obA,obS,slL,slR,qAc];kernel_rfl
def zbf_w:CQ:=qBm [(0,none,some (.node,34))] (qBr [false] zbf_c)
theorem zbf_ok:qAg Tryz.prog 10 zbf_w:=qAu zbf_val
def zbe_b0:IQ:=(.loop [4,8,39,40,41] (.seq (rg 42 [oP 42 (.bi .lss t41 t40)]) (.seq (.cond t42 .skip (.cn [8] (.exit 0))) (.seq (.block 1 (.seq (rg 10 [oP 43 (.iaddr 1 t39 t41),oP 44 (.load none t43),oM 10 t44]) (.seq (rg 12 [oM 46 t4,oM 47 t10,oP 48 (.call 10 [t46,t47]),oM 45 t48,oP 49 (.extract t45 0),oP 50 (.extract t45 1),oP 11 (.alloc 40 [.slice none 0 0,.int .i64 0,.string ⟨#[]⟩,.bool false,.string ⟨#[]⟩,.bool false,.string ⟨#[]⟩,.bool false,.slice none 0 0,.bool false]),oN (.store 10 t11 t49),oM 12 t50]) (.seq (.seq (rg 52 [oM 51 t12,oP 52 (.un .not t51)]) (.cond t52 (.seq (rg 3 [oP 2 (.mv (.v (.slice none 0 0))),oP 3 (.mv (vI 100))]) (.canon [(2,none,(.bag [.rw .node,.int .i64,.str,.bool,.str,.bool,.str,.bool,.rw .str,.bool]),40)] [2,3] .ret)) .skip)) (rg 8 [oM 53 t8,oP 54 (.load (some 10) t11),oP 55 (.bslice 40 10 1 [.slice none 0 0,.int .i64 0,.string ⟨#[]⟩,.bool false,.string ⟨#[]⟩,.bool false,.string ⟨#[]⟩,.bool false,.slice none 0 0,.bool false] [(0,t54)]),oP 56 (.append 40 10 136 [.slice none 0 0,.int .i64 0,.string ⟨#[]⟩,.bool false,.string ⟨#[]⟩,.bool false,.string ⟨#[]⟩,.bool false,.slice none 0 0,.bool false] t53 t55),oM 8 t56]))))) (rg 41 [oP 57 (.bi .add t41 (vI 1)),oM 41 t57])))))
def zbe_q:IQ:=(.seq (rg 3 [oP 2 (.mv (.v (.slice none 0 0))),oP 3 (.mv (vI 0))]) (.seq (.seq (rg 15 [oM 13 t0,oP 14 (.lenS t13),oP 15 (.bi .gtr t14 (vI 262144))]) (.cond t15 (.seq (rg 3 [oP 2 (.mv (.v (.slice none 0 0))),oP 3 (.mv (vI 10))]) (.canon [(2,none,(.bag [.rw .node,.int .i64,.str,.bool,.str,.bool,.str,.bool,.rw .str,.bool]),40)] [2,3] .ret)) .skip)) (.seq (rg 6 [oM 17 t0,oP 18 (.call 7 [t17]),oM 16 t18,oP 19 (.extract t16 0),oP 20 (.extract t16 1),oP 21 (.extract t16 2),oM 4 t19,oM 5 t20,oM 6 t21]) (.seq (.seq (rg 23 [oM 22 t5,oP 23 (.bi .neq t22 (vI 0))]) (.cond t23 (.seq (rg 3 [oM 24 t5,oP 2 (.mv (.v (.slice none 0 0))),oM 3 t24]) (.canon [(2,none,(.bag [.rw .node,.int .i64,.str,.bool,.str,.bool,.str,.bool,.rw .str,.bool]),40)] [2,3] .ret)) .skip)) (.seq (rg 7 [oM 25 t4,oP 26 (.call 8 [t25,(vI 0),(.v (.string ⟨#[107,101,121,115]⟩))]),oM 7 t26]) (.seq (.seq (rg 36 [oM 27 t7,oP 28 (.bi .lss t27 (vI 0)),oM 29 t28,oE 30 (.mv t4) 29,oE 31 (.mv t7) 29,oE 32 (.iaddr 6 t30 t31) 29,oE 33 (.faddr 0 t32) 29,oE 34 (.load none t33) 29,oE 35 (.bi .neq t34 (vI 6)) 29,oP 36 (.pick t29 vT t35)]) (.cond t36 (.seq (rg 3 [oP 2 (.mv (.v (.slice none 0 0))),oP 3 (.mv (vI 100))]) (.canon [(2,none,(.bag [.rw .node,.int .i64,.str,.bool,.str,.bool,.str,.bool,.rw .str,.bool]),40)] [2,3] .ret)) .skip)) (.seq (rg 8 [oP 8 (.mv (.v (.slice none 0 0)))]) (.seq (.seq (rg 41 [oM 37 t4,oM 38 t7,oP 39 (.call 9 [t37,t38]),oP 40 (.len t39),oP 41 (.mv (vI 0))]) (.block 0 (.canon [(8,none,(.bag [.rw .node,.int .i64,.str,.bool,.str,.bool,.str,.bool,.rw .str,.bool]),40)] [4,8,39,40,41] (.sub 0 zbe_b0)))) (.seq (rg 3 [oM 58 t8,oM 2 t58,oP 3 (.mv (vI 0))]) (.canon [(2,none,(.bag [.rw .node,.int .i64,.str,.bool,.str,.bool,.str,.bool,.rw .str,.bool]),40)] [2,3] .ret))))))))))
theorem zbe_chk:chk Tryz.prog 4 []=some (zbe_q.erase,[.tmp 2,.tmp 3],59):=by kernel_rfl
def qD2 (x40_ x41_:Int) (v:List Eng.Node) (out:List ((List Eng.Node) × Int × BA × Bool × BA × Bool × BA × Bool × (List BA) × Bool × Unit)) (x39_:List Int):Option ((Int × (List ((List Eng.Node) × Int × BA × Bool × BA × Bool × BA × Bool × (List BA) × Bool × Unit))) ⊕ ((Int × (List ((List Eng.Node) × Int × BA × Bool × BA × Bool × BA × Bool × (List BA) × Bool × Unit))) ⊕ ((List ((List Eng.Node) × Int × BA × Bool × BA × Bool × BA × Bool × (List BA) × Bool × Unit))))) :=
 bif decide (x41_<x40_) then (
  gd (0≤x41_∧x41_<x39_.length) <|
  gd ((Int.toNat x41_)<x39_.length) <|
  (zbf_s v (x39_.getD (Int.toNat x41_) (ET.dft .i64))).bind fun r16 =>
  bif (!r16.2) then (
   some (.inr (.inl ((100:Int),[]))))
  else (
   gd (out.length+([(r16.1.value,r16.1.kty,r16.1.kid,r16.1.hasKid,r16.1.use,r16.1.hasUse,r16.1.alg,r16.1.hasAlg,r16.1.ops,r16.1.hasOps,())]:List ((List Eng.Node) × Int × BA × Bool × BA × Bool × BA × Bool × (List BA) × Bool × Unit)).length≤9223372036854775807∧(out.length+([(r16.1.value,r16.1.kty,r16.1.kid,r16.1.hasKid,r16.1.use,r16.1.hasUse,r16.1.alg,r16.1.hasAlg,r16.1.ops,r16.1.hasOps,())]:List ((List Eng.Node) × Int × BA × Bool × BA × Bool × BA × Bool × (List BA) × Bool × Unit)).length)*136≤140737488355328) <|
   gd (qAe (x41_+(1:Int))) <|
   some (.inl ((x41_+(1:Int)),(out++[(r16.1.value,r16.1.kty,r16.1.kid,r16.1.hasKid,r16.1.use,r16.1.hasUse,r16.1.alg,r16.1.hasAlg,r16.1.ops,r16.1.hasOps,())])))))
 else (
  some (.inr (.inr out)))
def zbe_p0 (x40_ x41_:Int) (v:List Eng.Node) (out:List ((List Eng.Node) × Int × BA × Bool × BA × Bool × BA × Bool × (List BA) × Bool × Unit)) (x39_:List Int):Option ((Int × (List ((List Eng.Node) × Int × BA × Bool × BA × Bool × BA × Bool × (List BA) × Bool × Unit))) ⊕ ((List ((List Eng.Node) × Int × BA × Bool × BA × Bool × BA × Bool × (List BA) × Bool × Unit)))) :=
 qA0 (fun x:(Int × (List ((List Eng.Node) × Int × BA × Bool × BA × Bool × BA × Bool × (List BA) × Bool × Unit)))=>qD2 x40_ x.1 v x.2 x39_) (x41_,out)
def zbe_s (doc:BA):Option ((List ((List Eng.Node) × Int × BA × Bool × BA × Bool × BA × Bool × (List BA) × Bool × Unit)) × Int) :=
 bif decide ((262144:Int)<(doc.size:Int)) then (
  some ([],(10:Int)))
 else (
  (zai_s doc).bind fun r13 =>
  bif (!decide (r13.2.1=(0:Int))) then (
   some ([],r13.2.1))
  else (
   (zah_s r13.1 (0:Int) (⟨#[107,101,121,115]⟩:BA)).bind fun r14 =>
   gd ((decide (r14<(0:Int)))=false→0≤r14∧r14<r13.1.length) <|
   gd ((decide (r14<(0:Int)))=false→(Int.toNat r14)<r13.1.length) <|
   gd ((decide (r14<(0:Int)))=false→(Int.toNat r14)<r13.1.length) <|
   bif ((decide (r14<(0:Int))) || (!decide (((r13.1.getD (Int.toNat r14) (ET.dft .node)).kind)=(6:Int)))) then (
    some ([],(100:Int)))
   else (
    (zag_s r13.1 r14).bind fun r15 =>
    (zbe_p0 (r15.length:Int) (0:Int) r13.1 [] r15).bind fun o17=>(Sum.elim (fun (o17_0:Int × (List ((List Eng.Node) × Int × BA × Bool × BA × Bool × BA × Bool × (List BA) × Bool × Unit))) =>
     some (o17_0.2,o17_0.1)) (fun (o17_1:(List ((List Eng.Node) × Int × BA × Bool × BA × Bool × BA × Bool × (List BA) × Bool × Unit))) =>
     some (o17_1,(0:Int)))) o17)))
def zbe_G:Nat→Option CQ:=tblQ [(7,zai_w),(8,zah_w),(9,zag_w),(10,zbf_w)]
theorem zbe_Gok:∀f C,zbe_G f=some C→qAg Tryz.prog f C:=qAj ⟨zai_ok,zah_ok,zag_ok,zbf_ok,tV⟩
def zDJK1:=(dBag [.rw .node,.int .i64,.str,.bool,.str,.bool,.str,.bool,.rw .str,.bool] 40)
def zbe_d0:=(dQS (qAb (dSO 4 (dO 0)) (qAb (dSO 8 (dBsl 1)) (qAb (dSO 39 (dO 2)) (qAb (dSO 40 dZ) (qAb (dSO 41 dZ) dNil))))) (qAb (dRow .node 34) (qAb zDJK1 (qAb (dRow .i64 3) dNil))))
def zbe_l0:SubQ:=mkL zbe_d0 (fun x=>zbe_p0 x.1.2.2.2.1 x.1.2.2.2.2.1 x.2.1 x.2.2.1 x.2.2.2.1) fun x r R kn kx kr=>(Sum.elim (fun (r_0:Int × (List ((List Eng.Node) × Int × BA × Bool × BA × Bool × BA × Bool × (List BA) × Bool × Unit)))=>kr ⟨[sL 2 (.bsl 0),sL 3 (.vI r_0.1)],[],[.bag [.rw .node,.int .i64,.str,.bool,.str,.bool,.str,.bool,.rw .str,.bool] 40 r_0.2]⟩) (fun (r_1:(List ((List Eng.Node) × Int × BA × Bool × BA × Bool × BA × Bool × (List BA) × Bool × Unit)))=>kx 0 ⟨[sL 8 (.bsl 0)],[],[.bag [.rw .node,.int .i64,.str,.bool,.str,.bool,.str,.bool,.rw .str,.bool] 40 r_1]⟩)) r
def zbe_L:Nat→SubQ:=tblL [(0,zbe_l0)]
theorem zbe_sub0:qA4 zbe_L zbe_G 0 42 59 0 zbe_b0:=qAr (show zbe_L 0=zbe_l0 from by kernel_rfl) fun x R kn kx kr=>qAo (step:=fun y=>qD2 x.1.2.2.2.1 y.1 x.2.1 y.2 x.2.2.2.1) (enc:=fun (y:Int × (List ((List Eng.Node) × Int × BA × Bool × BA × Bool × BA × Bool × (List BA) × Bool × Unit)))=>zbe_d0.e ((x.1.1,x.1.2.1,x.1.2.2.1,x.1.2.2.2.1,y.1,x.1.2.2.2.2.2),(x.2.1,y.2,x.2.2.2))) (fun y=>by kernel_rfl) (fun y ki=>by simp only [qD2,-eq_self,qAd,qAf,obA,obS,slL,slR,qAc]; kernel_rfl) (x.1.2.2.2.2.1,x.2.2.1)
theorem zbe_subs:qAn zbe_L zbe_G 0 42 59 zbe_q:=qAk (show qAq zbe_L zbe_G 0 42 59 [(0,zbe_b0)] from ⟨zbe_sub0,tV⟩)
def zbe_da:=(qAb (dVC (dCO dS)) dNil)
def zbe_db:=(dNil:Dec Unit (List SB))
def zbe_c:CS:=mkC zbe_da zbe_db (fun x y=>zbe_s x.1) (fun x y r=>.tup [.o (.bsl 0),.o (.vI r.2)]) fun x y r=>[.bag [.rw .node,.int .i64,.str,.bool,.str,.bool,.str,.bool,.rw .str,.bool] 40 r.1]
theorem zbe_val:qAl Tryz.prog 4 zbe_c:=qAm zbe_chk 42 zbe_Gok 0 (fun x=>Nat.le_of_ble_eq_true rfl) (fun y=>rfl) zbe_subs fun x y=>by
 simp only [zbe_s,-eq_self,qAd,qAf,obA,obS,slL,slR,qAc];kernel_rfl
def zbe_w:CQ:=qBr [] zbe_c
theorem zbe_ok:qAg Tryz.prog 4 zbe_w:=qBc zbe_val
def zbs_q:IQ:=(.seq (rg 8 [oP 6 (.mv (.v (.string ⟨#[]⟩))),oP 7 (.mv vF),oP 8 (.mv vF)]) (.seq (rg 9 [oM 10 t0,oM 11 t1,oM 12 t2,oP 13 (.call 12 [t10,t11,t12]),oM 9 t13]) (.seq (.seq (rg 15 [oM 14 t9,oP 15 (.bi .lss t14 (vI 0))]) (.cond t15 (.seq (rg 8 [oP 6 (.mv (.v (.string ⟨#[]⟩))),oP 7 (.mv vF),oP 8 (.mv vT)]) (.cn [6,7,8] .ret)) .skip)) (.seq (.seq (rg 21 [oM 16 t0,oM 17 t9,oP 18 (.iaddr 6 t16 t17),oP 19 (.faddr 0 t18),oP 20 (.load none t19),oP 21 (.bi .neq t20 (vI 5))]) (.cond t21 (.seq (rg 8 [oP 6 (.mv (.v (.string ⟨#[]⟩))),oP 7 (.mv vT),oP 8 (.mv vF)]) (.cn [6,7,8] .ret)) .skip)) (.seq (rg 8 [oM 22 t0,oM 23 t9,oP 24 (.iaddr 6 t22 t23),oP 25 (.faddr 2 t24),oP 26 (.load none t25),oM 6 t26,oP 7 (.mv vT),oP 8 (.mv vT)]) (.cn [6,7,8] .ret))))))
theorem zbs_chk:chk Tryz.prog 26 []=some (zbs_q.erase,[.tmp 6,.tmp 7,.tmp 8],27):=by kernel_rfl
def zbs_s (v:(List Eng.Node)) (at_:Int) (name:BA):Option (BA × Bool × Bool) :=
 (zbz_s v at_ name).bind fun r1 =>
 bif decide (r1<(0:Int)) then (
  some ((⟨#[]⟩:BA),false,true))
 else (
  gd (0≤r1∧r1<v.length) <|
  gd ((Int.toNat r1)<v.length) <|
  gd ((Int.toNat r1)<v.length) <|
  bif (!decide (((v.getD (Int.toNat r1) (ET.dft .node)).kind)=(5:Int))) then (
   some ((⟨#[]⟩:BA),true,false))
  else (
   gd (0≤r1∧r1<v.length) <|
   gd ((Int.toNat r1)<v.length) <|
   gd ((Int.toNat r1)<v.length) <|
   some ((v.getD (Int.toNat r1) (ET.dft .node)).text,true,true)))
def zbs_G:Nat→Option CQ:=tblQ [(12,zbz_w)]
theorem zbs_Gok:∀f C,zbs_G f=some C→qAg Tryz.prog f C:=qAj ⟨zbz_ok,tV⟩
def zbs_L:Nat→SubQ:=tblL []
theorem zbs_subs:qAn zbs_L zbs_G 1 10 27 zbs_q:=qAk (show qAq zbs_L zbs_G 1 10 27 [] from tV)
def zbs_da:=(qAb (dVC (dCO (dO 0))) (qAb (dVC (dCO dZ)) (qAb (dVC (dCO dS)) dNil)))
def zbs_db:=(qAb (qBi .node) dNil)
def zbs_c:CS:=mkC zbs_da zbs_db (fun x y=>zbs_s y.1 x.2.1 x.2.2.1) (fun x y r=>.tup [.o (.vS r.1),.o (.vB r.2.1),.o (.vB r.2.2)]) fun x y r=>[.view .node y.1]
theorem zbs_val:qAl Tryz.prog 26 zbs_c:=qAm zbs_chk 10 zbs_Gok 1 (fun x=>Nat.le_of_ble_eq_true rfl) (fun y=>rfl) zbs_subs fun x y=>by
 simp only [zbs_s,-eq_self,qAd,qAf,obA,obS,slL,slR,qAc];kernel_rfl
def zbs_w:CQ:=qBm [(0,none,some (.node,34))] (qCj [false] zbs_c)
theorem zbs_ok:qAg Tryz.prog 26 zbs_w:=qB1 zbs_val
def zbq_q:IQ:=(.seq (rg 2 [oP 2 (.mv (vI 0))]) (.seq (.seq (rg 3 [oM 3 t0]) (.block 0 (.seq (rg 4 [oP 5 (.bi .eql t3 (.v (.string ⟨#[111,99,116]⟩))),oM 4 t5]) (.cond t4 (.seq (rg 2 [oP 2 (.mv (vI 1))]) (.cn [2] .ret)) (.seq (rg 6 [oP 7 (.bi .eql t3 (.v (.string ⟨#[82,83,65]⟩))),oM 6 t7]) (.cond t6 (.seq (rg 2 [oP 2 (.mv (vI 2))]) (.cn [2] .ret)) (.seq (rg 8 [oP 9 (.bi .eql t3 (.v (.string ⟨#[69,67]⟩))),oM 8 t9]) (.cond t8 (.seq (rg 2 [oP 2 (.mv (vI 3))]) (.cn [2] .ret)) (.seq (rg 10 [oP 11 (.bi .eql t3 (.v (.string ⟨#[79,75,80]⟩))),oM 10 t11]) (.cond t10 (.seq (rg 2 [oP 2 (.mv (vI 4))]) (.cn [2] .ret)) .skip)))))))))) (.seq (rg 2 [oP 2 (.mv (vI 0))]) (.cn [2] .ret))))
theorem zbq_chk:chk Tryz.prog 27 []=some (zbq_q.erase,[.tmp 2],12):=by kernel_rfl
def zbq_s (s:BA):Option Int :=
 bif decide (s=(⟨#[111,99,116]⟩:BA)) then (
  some (1:Int))
 else (
  bif decide (s=(⟨#[82,83,65]⟩:BA)) then (
   some (2:Int))
  else (
   bif decide (s=(⟨#[69,67]⟩:BA)) then (
    some (3:Int))
   else (
    bif decide (s=(⟨#[79,75,80]⟩:BA)) then (
     some (4:Int))
    else (
     some (0:Int)))))
def zbq_G:Nat→Option CQ:=tblQ []
theorem zbq_Gok:∀f C,zbq_G f=some C→qAg Tryz.prog f C:=fun f C h=>by cases h
def zbq_L:Nat→SubQ:=tblL []
theorem zbq_subs:qAn zbq_L zbq_G 0 4 12 zbq_q:=qAk (show qAq zbq_L zbq_G 0 4 12 [] from tV)
def zbq_da:=(qAb (dVC (dCO dS)) dNil)
def zbq_db:=(dNil:Dec Unit (List SB))
def zbq_c:CS:=mkC zbq_da zbq_db (fun x y=>zbq_s x.1) (fun x y r=>.c (.o (.vI r))) fun x y r=>[]
theorem zbq_val:qAl Tryz.prog 27 zbq_c:=qAm zbq_chk 4 zbq_Gok 0 (fun x=>Nat.le_of_ble_eq_true rfl) (fun y=>rfl) zbq_subs fun x y=>by
 simp only [zbq_s,-eq_self,qAd,qAf,obA,obS,slL,slR,qAc];kernel_rfl
def zbq_w:CQ:=qCj [] zbq_c
theorem zbq_ok:qAg Tryz.prog 27 zbq_w:=qAx zbq_val
def zbr_b1:IQ:=(.loop [0,8,9,10,11] (.seq (.seq (rg 43 [oM 41 t11,oM 42 t10,oP 43 (.bi .lss t41 t42)]) (.cond t43 .skip (.canon [(8,none,.str,9)] [0,8,9,10] (.exit 2)))) (.seq (.block 3 (.seq (.reg 62 (some [0,1,2,3,4,5,6,7,8,9,10,11,12,13,14,15,16]) [oM 46 t0,oM 47 t9,oM 48 t11,oP 49 (.iaddr 1 t47 t48),oP 50 (.load none t49),oP 51 (.iaddr 6 t46 t50),oP 52 (.faddr 2 t51),oP 53 (.load none t52),oM 54 t0,oM 55 t9,oM 56 t10,oP 57 (.iaddr 1 t55 t56),oP 58 (.load none t57),oP 59 (.iaddr 6 t54 t58),oP 60 (.faddr 2 t59),oP 61 (.load none t60),oP 62 (.bi .eql t53 t61)]) (.cond t62 (.seq (rg 6 [oP 4 (.mv (.v (.slice none 0 0))),oP 5 (.mv vT),oP 6 (.mv vF)]) (.canon [(4,none,.str,9)] [4,5,6] .ret)) .skip))) (rg 11 [oM 44 t11,oP 45 (.bi .add t44 (vI 1)),oM 11 t45]))))
def zbr_b0:IQ:=(.loop [0,8,9,10] (.seq (.seq (rg 29 [oM 26 t10,oM 27 t9,oP 28 (.len t27),oP 29 (.bi .lss t26 t28)]) (.cond t29 .skip (.cn [8] (.exit 0)))) (.seq (.block 1 (.seq (.seq (rg 40 [oM 32 t0,oM 33 t9,oM 34 t10,oP 35 (.iaddr 1 t33 t34),oP 36 (.load none t35),oP 37 (.iaddr 6 t32 t36),oP 38 (.faddr 0 t37),oP 39 (.load none t38),oP 40 (.bi .neq t39 (vI 5))]) (.cond t40 (.seq (rg 6 [oP 4 (.mv (.v (.slice none 0 0))),oP 5 (.mv vT),oP 6 (.mv vF)]) (.canon [(4,none,.str,9)] [4,5,6] .ret)) .skip)) (.seq (.seq (rg 11 [oP 11 (.mv (vI 0))]) (.block 2 (.canon [(8,none,.str,9)] [0,8,9,10,11] (.sub 1 zbr_b1)))) (rg 8 [oM 63 t8,oM 64 t0,oM 65 t9,oM 66 t10,oP 67 (.iaddr 1 t65 t66),oP 68 (.load none t67),oP 69 (.iaddr 6 t64 t68),oP 70 (.faddr 2 t69),oP 71 (.load none t70),oP 72 (.bslice 9 1 1 [.string ⟨#[]⟩] [(0,t71)]),oP 73 (.append 9 1 16 [.string ⟨#[]⟩] t63 t72),oM 8 t73])))) (rg 10 [oM 30 t10,oP 31 (.bi .add t30 (vI 1)),oM 10 t31]))))
def zbr_q:IQ:=(.seq (rg 6 [oP 4 (.mv (.v (.slice none 0 0))),oP 5 (.mv vF),oP 6 (.mv vF)]) (.seq (rg 7 [oM 12 t0,oM 13 t1,oP 14 (.call 12 [t12,t13,(.v (.string ⟨#[107,101,121,95,111,112,115]⟩))]),oM 7 t14]) (.seq (.seq (rg 16 [oM 15 t7,oP 16 (.bi .lss t15 (vI 0))]) (.cond t16 (.seq (rg 6 [oP 4 (.mv (.v (.slice none 0 0))),oP 5 (.mv vF),oP 6 (.mv vT)]) (.canon [(4,none,.str,9)] [4,5,6] .ret)) .skip)) (.seq (.seq (rg 22 [oM 17 t0,oM 18 t7,oP 19 (.iaddr 6 t17 t18),oP 20 (.faddr 0 t19),oP 21 (.load none t20),oP 22 (.bi .neq t21 (vI 6))]) (.cond t22 (.seq (rg 6 [oP 4 (.mv (.v (.slice none 0 0))),oP 5 (.mv vT),oP 6 (.mv vF)]) (.canon [(4,none,.str,9)] [4,5,6] .ret)) .skip)) (.seq (rg 8 [oP 8 (.mv (.v (.slice none 0 0)))]) (.seq (rg 9 [oM 23 t0,oM 24 t7,oP 25 (.call 13 [t23,t24]),oM 9 t25]) (.seq (.seq (rg 10 [oP 10 (.mv (vI 0))]) (.block 0 (.canon [(8,none,.str,9)] [0,8,9,10] (.sub 0 zbr_b0)))) (.seq (rg 6 [oM 74 t8,oM 4 t74,oP 5 (.mv vT),oP 6 (.mv vT)]) (.canon [(4,none,.str,9)] [4,5,6] .ret)))))))))
theorem zbr_chk:chk Tryz.prog 28 []=some (zbr_q.erase,[.tmp 4,.tmp 5,.tmp 6],75):=by kernel_rfl
def qDx (i j:Int) (v:List Eng.Node) (l:List Int):Option (Int ⊕ ((Bool × Bool × (List BA)) ⊕ Unit)) :=
 bif decide (j<i) then (
  gd (0≤j∧j<l.length) <|
  gd ((Int.toNat j)<l.length) <|
  gd (0≤(l.getD (Int.toNat j) (ET.dft .i64))∧(l.getD (Int.toNat j) (ET.dft .i64))<v.length) <|
  gd ((Int.toNat (l.getD (Int.toNat j) (ET.dft .i64)))<v.length) <|
  gd ((Int.toNat (l.getD (Int.toNat j) (ET.dft .i64)))<v.length) <|
  gd (0≤i∧i<l.length) <|
  gd ((Int.toNat i)<l.length) <|
  gd (0≤(l.getD (Int.toNat i) (ET.dft .i64))∧(l.getD (Int.toNat i) (ET.dft .i64))<v.length) <|
  gd ((Int.toNat (l.getD (Int.toNat i) (ET.dft .i64)))<v.length) <|
  gd ((Int.toNat (l.getD (Int.toNat i) (ET.dft .i64)))<v.length) <|
  bif decide (((v.getD (Int.toNat (l.getD (Int.toNat j) (ET.dft .i64))) (ET.dft .node)).text)=((v.getD (Int.toNat (l.getD (Int.toNat i) (ET.dft .i64))) (ET.dft .node)).text)) then (
   some (.inr (.inl (true,false,[]))))
  else (
   gd (qAe (j+(1:Int))) <|
   some (.inl (j+(1:Int)))))
 else (
  some (.inr (.inr ())))
def zbr_p1 (i j:Int) (v:List Eng.Node) (l:List Int):Option ((Bool × Bool × (List BA)) ⊕ Unit) :=
 qA0 (fun x:Int=>qDx i x v l) j
def qDd (i:Int) (v:List Eng.Node) (out:List BA) (l:List Int):Option ((Int × (List BA)) ⊕ ((Bool × Bool × (List BA)) ⊕ ((List BA)))) :=
 bif decide (i<(l.length:Int)) then (
  gd (0≤i∧i<l.length) <|
  gd ((Int.toNat i)<l.length) <|
  gd (0≤(l.getD (Int.toNat i) (ET.dft .i64))∧(l.getD (Int.toNat i) (ET.dft .i64))<v.length) <|
  gd ((Int.toNat (l.getD (Int.toNat i) (ET.dft .i64)))<v.length) <|
  gd ((Int.toNat (l.getD (Int.toNat i) (ET.dft .i64)))<v.length) <|
  bif (!decide (((v.getD (Int.toNat (l.getD (Int.toNat i) (ET.dft .i64))) (ET.dft .node)).kind)=(5:Int))) then (
   some (.inr (.inl (true,false,[]))))
  else (
   (zbr_p1 i (0:Int) v l).bind fun o18=>(Sum.elim (fun (o18_0:Bool × Bool × (List BA)) =>
    some (.inr (.inl (o18_0.1,o18_0.2.1,o18_0.2.2)))) (fun (o18_1:Unit) =>
    gd (0≤i∧i<l.length) <|
    gd ((Int.toNat i)<l.length) <|
    gd (0≤(l.getD (Int.toNat i) (ET.dft .i64))∧(l.getD (Int.toNat i) (ET.dft .i64))<v.length) <|
    gd ((Int.toNat (l.getD (Int.toNat i) (ET.dft .i64)))<v.length) <|
    gd ((Int.toNat (l.getD (Int.toNat i) (ET.dft .i64)))<v.length) <|
    gd (out.length+([(v.getD (Int.toNat (l.getD (Int.toNat i) (ET.dft .i64))) (ET.dft .node)).text]:List BA).length≤9223372036854775807∧(out.length+([(v.getD (Int.toNat (l.getD (Int.toNat i) (ET.dft .i64))) (ET.dft .node)).text]:List BA).length)*16≤140737488355328) <|
    gd (qAe (i+(1:Int))) <|
    some (.inl ((i+(1:Int)),(out++[(v.getD (Int.toNat (l.getD (Int.toNat i) (ET.dft .i64))) (ET.dft .node)).text]))))) o18))
 else (
  some (.inr (.inr out)))
def zbr_p0 (i:Int) (v:List Eng.Node) (out:List BA) (l:List Int):Option ((Bool × Bool × (List BA)) ⊕ ((List BA))) :=
 qA0 (fun x:(Int × (List BA))=>qDd x.1 v x.2 l) (i,out)
def zbr_s (v:(List Eng.Node)) (at_:Int):Option ((List BA) × Bool × Bool) :=
 (zbz_s v at_ (⟨#[107,101,121,95,111,112,115]⟩:BA)).bind fun r16 =>
 bif decide (r16<(0:Int)) then (
  some ([],false,true))
 else (
  gd (0≤r16∧r16<v.length) <|
  gd ((Int.toNat r16)<v.length) <|
  gd ((Int.toNat r16)<v.length) <|
  bif (!decide (((v.getD (Int.toNat r16) (ET.dft .node)).kind)=(6:Int))) then (
   some ([],true,false))
  else (
   (zby_s v r16).bind fun r17 =>
   (zbr_p0 (0:Int) v [] r17).bind fun o19=>(Sum.elim (fun (o19_0:Bool × Bool × (List BA)) =>
    some (o19_0.2.2,o19_0.1,o19_0.2.1)) (fun (o19_1:(List BA)) =>
    some (o19_1,true,true))) o19))
def zbr_G:Nat→Option CQ:=tblQ [(12,zbz_w),(13,zby_w)]
theorem zbr_Gok:∀f C,zbr_G f=some C→qAg Tryz.prog f C:=qAj ⟨zbz_ok,zby_ok,tV⟩
def zbr_d1:=(dQS (qAb (dSO 0 (dO 0)) (qAb (dSO 8 (dO 1)) (qAb (dSO 9 (dO 2)) (qAb (dSO 10 dZ) (qAb (dSO 11 dZ) dNil))))) zDJK2)
def zbr_l1:SubQ:=mkL zbr_d1 (fun x=>zbr_p1 x.1.2.2.2.1 x.1.2.2.2.2.1 x.2.1 x.2.2.2.1) fun x r R kn kx kr=>(Sum.elim (fun (r_0:Bool × Bool × (List BA))=>kr ⟨[sL 4 (.own 1),sL 5 (.vB r_0.1),sL 6 (.vB r_0.2.1)],[],[.view .node x.2.1,.row .str 9 r_0.2.2]⟩) (fun (r_1:Unit)=>kx 2 ⟨[sL 0 (.own 0),sL 8 (.own 1),sL 9 (.own 2),sL 10 (.vI x.1.2.2.2.1)],[],[.view .node x.2.1,.row .str 9 x.2.2.1,.row .i64 3 x.2.2.2.1]⟩)) r
def zbr_d0:=(dQS (qAb (dSO 0 (dO 0)) (qAb (dSO 8 (dO 1)) (qAb (dSO 9 (dO 2)) (qAb (dSO 10 dZ) dNil)))) zDJK2)
def zbr_l0:SubQ:=mkL zbr_d0 (fun x=>zbr_p0 x.1.2.2.2.1 x.2.1 x.2.2.1 x.2.2.2.1) fun x r R kn kx kr=>(Sum.elim (fun (r_0:Bool × Bool × (List BA))=>kr ⟨[sL 4 (.own 1),sL 5 (.vB r_0.1),sL 6 (.vB r_0.2.1)],[],[.view .node x.2.1,.row .str 9 r_0.2.2]⟩) (fun (r_1:(List BA))=>kx 0 ⟨[sL 8 (.own 1)],[],[.view .node x.2.1,.row .str 9 r_1]⟩)) r
def zbr_L:Nat→SubQ:=tblL [(1,zbr_l1),(0,zbr_l0)]
theorem zbr_sub1:qA4 zbr_L zbr_G 1 12 75 1 zbr_b1:=qAr (show zbr_L 1=zbr_l1 from by kernel_rfl) fun x R kn kx kr=>qAo (step:=fun y=>qDx x.1.2.2.2.1 y x.2.1 x.2.2.2.1) (enc:=fun (y:Int)=>zbr_d1.e ((x.1.1,x.1.2.1,x.1.2.2.1,x.1.2.2.2.1,y,x.1.2.2.2.2.2),x.2)) (fun y=>by kernel_rfl) (fun y ki=>by simp only [qDx,-eq_self,qAd,qAf,obA,obS,slL,slR,qAc]; kernel_rfl) x.1.2.2.2.2.1
theorem zbr_sub0:qA4 zbr_L zbr_G 1 12 75 0 zbr_b0:=qAr (show zbr_L 0=zbr_l0 from by kernel_rfl) fun x R kn kx kr=>qAo (step:=fun y=>qDd y.1 x.2.1 y.2 x.2.2.2.1) (enc:=fun (y:Int × (List BA))=>zbr_d0.e ((x.1.1,x.1.2.1,x.1.2.2.1,y.1,x.1.2.2.2.2),(x.2.1,y.2,x.2.2.2))) (fun y=>by kernel_rfl) (fun y ki=>by simp only [qDd,-eq_self,qAd,qAf,obA,obS,slL,slR,qAc]; kernel_rfl) (x.1.2.2.2.1,x.2.2.1)
theorem zbr_subs:qAn zbr_L zbr_G 1 12 75 zbr_q:=qAk (show qAq zbr_L zbr_G 1 12 75 [(0,zbr_b0),(1,zbr_b1)] from ⟨zbr_sub0,zbr_sub1,tV⟩)
def zbr_da:=(qAb (dVC (dCO (dO 0))) (qAb (dVC (dCO dZ)) dNil))
def zbr_db:=(qAb (qBi .node) dNil)
def zbr_c:CS:=mkC zbr_da zbr_db (fun x y=>zbr_s y.1 x.2.1) (fun x y r=>.tup [.o (.own 1),.o (.vB r.2.1),.o (.vB r.2.2)]) fun x y r=>[.view .node y.1,.row .str 9 r.1]
theorem zbr_val:qAl Tryz.prog 28 zbr_c:=qAm zbr_chk 12 zbr_Gok 1 (fun x=>Nat.le_of_ble_eq_true rfl) (fun y=>rfl) zbr_subs fun x y=>by
 simp only [zbr_s,-eq_self,qAd,qAf,obA,obS,slL,slR,qAc];kernel_rfl
def zbr_w:CQ:=qBm [(0,none,some (.node,34))] (qBr [false] zbr_c)
theorem zbr_ok:qAg Tryz.prog 28 zbr_w:=qAu zbr_val
def zcb_q:IQ:=(.seq (rg 4 [oP 4 (.mv (.v (.slice none 0 0)))]) (.seq (rg 5 [oM 7 t0,oM 8 t1,oP 9 (.call 25 [t7,t8]),oM 5 t9]) (.seq (.seq (rg 17 [oM 10 t5,oP 11 (.bi .lss t10 (vI 0)),oM 12 t11,oE 13 (.mv t5) 12,oE 14 (.mv t0) 12,oE 15 (.len t14) 12,oE 16 (.bi .gtr t13 t15) 12,oP 17 (.pick t12 vT t16)]) (.cond t17 (.seq (rg 4 [oP 4 (.mv (.v (.slice none 0 0)))]) (.canon [(4,none,.node,34)] [4] .ret)) .skip)) (.seq (rg 6 [oM 18 t0,oM 19 t1,oM 20 t5,oP 21 (.sub (some 6) t18 (some t19) (some t20)),oP 22 (.call 45 [t21]),oM 6 t22]) (.seq (rg 0 [oM 23 t6,oP 24 (.iaddr 6 t23 (vI 0)),oP 25 (.faddr 1 t24),oN (.store 1 t25 (.v (.string ⟨#[]⟩)))]) (.seq (rg 4 [oM 26 t6,oM 4 t26]) (.canon [(4,none,.node,34)] [4] .ret)))))))
theorem zcb_chk:chk Tryz.prog 29 []=some (zcb_q.erase,[.tmp 4],27):=by kernel_rfl
def zcb_s (v:(List Eng.Node)) (at_:Int):Option ((List Eng.Node)) :=
 (zbx_s v at_).bind fun r1 =>
 bif ((decide (r1<(0:Int))) || (decide ((v.length:Int)<r1))) then (
  some [])
 else (
  gd (0≤at_∧at_≤r1∧r1≤v.length) <|
  (zcc_s ((v.take (Int.toNat r1)).drop (Int.toNat at_))).bind fun r2 =>
  gd (0≤(0:Int)∧(0:Int)<r2.length) <|
  gd ((Int.toNat (0:Int))<r2.length) <|
  gd ((Int.toNat (0:Int))<r2.length) <|
  some (r2.set (Int.toNat (0:Int)) (⟨(r2.getD (Int.toNat (0:Int)) (ET.dft .node)).kind,(⟨#[]⟩:BA),(r2.getD (Int.toNat (0:Int)) (ET.dft .node)).text,(r2.getD (Int.toNat (0:Int)) (ET.dft .node)).whole,(r2.getD (Int.toNat (0:Int)) (ET.dft .node)).int,(r2.getD (Int.toNat (0:Int)) (ET.dft .node)).kids⟩:Eng.Node)))
def zcb_G:Nat→Option CQ:=tblQ [(25,zbx_w),(45,zcc_w)]
theorem zcb_Gok:∀f C,zcb_G f=some C→qAg Tryz.prog f C:=qAj ⟨zbx_ok,zcc_ok,tV⟩
def zcb_L:Nat→SubQ:=tblL []
theorem zcb_subs:qAn zcb_L zcb_G 1 7 27 zcb_q:=qAk (show qAq zcb_L zcb_G 1 7 27 [] from tV)
def zcb_da:=(qAb (dVC (dCO (dO 0))) (qAb (dVC (dCO dZ)) dNil))
def zcb_db:=(qAb (qBi .node) dNil)
def zcb_c:CS:=mkC zcb_da zcb_db (fun x y=>zcb_s y.1 x.2.1) (fun x y r=>.c (.o (.own 1))) fun x y r=>[.view .node y.1,.row .node 34 r]
theorem zcb_val:qAl Tryz.prog 29 zcb_c:=qAm zcb_chk 7 zcb_Gok 1 (fun x=>Nat.le_of_ble_eq_true rfl) (fun y=>rfl) zcb_subs fun x y=>by
 simp only [zcb_s,-eq_self,qAd,qAf,obA,obS,slL,slR,qAc];kernel_rfl
def zcb_w:CQ:=qBm [(0,none,some (.node,34))] (qBr [false] zcb_c)
theorem zcb_ok:qAg Tryz.prog 29 zcb_w:=qAu zcb_val
def zbp_q:IQ:=(.seq (rg 5 [oP 4 (.alloc 40 [.slice none 0 0,.int .i64 0,.string ⟨#[]⟩,.bool false,.string ⟨#[]⟩,.bool false,.string ⟨#[]⟩,.bool false,.slice none 0 0,.bool false]),oP 5 (.mv vF)]) (.seq (rg 6 [oP 6 (.alloc 40 [.slice none 0 0,.int .i64 0,.string ⟨#[]⟩,.bool false,.string ⟨#[]⟩,.bool false,.string ⟨#[]⟩,.bool false,.slice none 0 0,.bool false])]) (.seq (.seq (rg 27 [oM 22 t0,oM 23 t1,oP 24 (.iaddr 6 t22 t23),oP 25 (.faddr 0 t24),oP 26 (.load none t25),oP 27 (.bi .neq t26 (vI 7))]) (.cond t27 (.seq (rg 5 [oP 28 (.load (some 10) t6),oN (.store 10 t4 t28),oP 5 (.mv vF)]) (.canon [(4,some 0,.node,34),(4,some 8,.str,9)] [4,5] .ret)) .skip)) (.seq (rg 9 [oM 30 t0,oM 31 t1,oP 32 (.call 26 [t30,t31,(.v (.string ⟨#[107,116,121]⟩))]),oM 29 t32,oP 33 (.extract t29 0),oP 34 (.extract t29 1),oP 35 (.extract t29 2),oM 7 t33,oM 8 t34,oM 9 t35]) (.seq (.seq (rg 41 [oM 36 t8,oP 37 (.un .not t36),oM 38 t37,oE 39 (.mv t9) 38,oE 40 (.un .not t39) 38,oP 41 (.pick t38 vT t40)]) (.cond t41 (.seq (rg 5 [oP 42 (.load (some 10) t6),oN (.store 10 t4 t42),oP 5 (.mv vF)]) (.canon [(4,some 0,.node,34),(4,some 8,.str,9)] [4,5] .ret)) .skip)) (.seq (rg 0 [oM 43 t7,oP 44 (.call 27 [t43]),oP 45 (.faddr 1 t6),oN (.store 1 t45 t44)]) (.seq (rg 12 [oM 47 t0,oM 48 t1,oP 49 (.call 26 [t47,t48,(.v (.string ⟨#[107,105,100]⟩))]),oM 46 t49,oP 50 (.extract t46 0),oP 51 (.extract t46 1),oP 52 (.extract t46 2),oM 10 t50,oM 11 t51,oM 12 t52]) (.seq (rg 15 [oM 54 t0,oM 55 t1,oP 56 (.call 26 [t54,t55,(.v (.string ⟨#[117,115,101]⟩))]),oM 53 t56,oP 57 (.extract t53 0),oP 58 (.extract t53 1),oP 59 (.extract t53 2),oM 13 t57,oM 14 t58,oM 15 t59]) (.seq (rg 18 [oM 61 t0,oM 62 t1,oP 63 (.call 26 [t61,t62,(.v (.string ⟨#[97,108,103]⟩))]),oM 60 t63,oP 64 (.extract t60 0),oP 65 (.extract t60 1),oP 66 (.extract t60 2),oM 16 t64,oM 17 t65,oM 18 t66]) (.seq (rg 21 [oM 68 t0,oM 69 t1,oP 70 (.call 28 [t68,t69]),oM 67 t70,oP 71 (.extract t67 0),oP 72 (.extract t67 1),oP 73 (.extract t67 2),oM 19 t71,oM 20 t72,oM 21 t73]) (.seq (.seq (rg 87 [oM 74 t12,oP 75 (.un .not t74),oM 76 t75,oE 77 (.mv t15) 76,oE 78 (.un .not t77) 76,oP 79 (.pick t76 vT t78),oM 80 t79,oE 81 (.mv t18) 80,oE 82 (.un .not t81) 80,oP 83 (.pick t80 vT t82),oM 84 t83,oE 85 (.mv t21) 84,oE 86 (.un .not t85) 84,oP 87 (.pick t84 vT t86)]) (.cond t87 (.seq (rg 5 [oP 88 (.build [.slice none 0 0,.int .i64 0,.string ⟨#[]⟩,.bool false,.string ⟨#[]⟩,.bool false,.string ⟨#[]⟩,.bool false,.slice none 0 0,.bool false] []),oN (.store 10 t4 t88),oP 5 (.mv vF)]) (.canon [(4,some 0,.node,34),(4,some 8,.str,9)] [4,5] .ret)) .skip)) (.seq (rg 0 [oM 89 t10,oP 90 (.faddr 2 t6),oN (.store 1 t90 t89)]) (.seq (rg 0 [oM 91 t11,oP 92 (.faddr 3 t6),oN (.store 1 t92 t91)]) (.seq (rg 0 [oM 93 t13,oP 94 (.faddr 4 t6),oN (.store 1 t94 t93)]) (.seq (rg 0 [oM 95 t14,oP 96 (.faddr 5 t6),oN (.store 1 t96 t95)]) (.seq (rg 0 [oM 97 t16,oP 98 (.faddr 6 t6),oN (.store 1 t98 t97)]) (.seq (rg 0 [oM 99 t17,oP 100 (.faddr 7 t6),oN (.store 1 t100 t99)]) (.seq (rg 0 [oM 101 t19,oP 102 (.faddr 8 t6),oN (.store 1 t102 t101)]) (.seq (rg 0 [oM 103 t20,oP 104 (.faddr 9 t6),oN (.store 1 t104 t103)]) (.seq (rg 0 [oM 105 t0,oM 106 t1,oP 107 (.call 29 [t105,t106]),oP 108 (.faddr 0 t6),oN (.store 1 t108 t107)]) (.seq (rg 0 [oP 109 (.faddr 0 t6),oP 110 (.load none t109),oP 111 (.iaddr 6 t110 (vI 0)),oP 112 (.faddr 1 t111),oN (.store 1 t112 (.v (.string ⟨#[]⟩)))]) (.seq (rg 5 [oP 113 (.load (some 10) t6),oN (.store 10 t4 t113),oP 5 (.mv vT)]) (.canon [(4,some 0,.node,34),(4,some 8,.str,9)] [4,5] .ret)))))))))))))))))))))))
theorem zbp_chk:chk Tryz.prog 14 []=some (zbp_q.erase,[.cell 4 (some 10),.tmp 5],114):=by kernel_rfl
def zbp_s (v:(List Eng.Node)) (at_:Int):Option (qHb × Bool) :=
 gd (0≤at_∧at_<v.length) <|
 gd ((Int.toNat at_)<v.length) <|
 gd ((Int.toNat at_)<v.length) <|
 bif (!decide (((v.getD (Int.toNat at_) (ET.dft .node)).kind)=(7:Int))) then (
  some ((⟨[],(0:Int),(⟨#[]⟩:BA),false,(⟨#[]⟩:BA),false,(⟨#[]⟩:BA),false,[],false⟩:qHb),false))
 else (
  (zbs_s v at_ (⟨#[107,116,121]⟩:BA)).bind fun r1 =>
  bif ((!r1.2.1) || (!r1.2.2)) then (
   some ((⟨[],(0:Int),(⟨#[]⟩:BA),false,(⟨#[]⟩:BA),false,(⟨#[]⟩:BA),false,[],false⟩:qHb),false))
  else (
   (zbq_s r1.1).bind fun r2 =>
   (zbs_s v at_ (⟨#[107,105,100]⟩:BA)).bind fun r3 =>
   (zbs_s v at_ (⟨#[117,115,101]⟩:BA)).bind fun r4 =>
   (zbs_s v at_ (⟨#[97,108,103]⟩:BA)).bind fun r5 =>
   (zbr_s v at_).bind fun r6 =>
   bif ((((!r3.2.2) || (!r4.2.2)) || (!r5.2.2)) || (!r6.2.2)) then (
    some ((⟨[],(0:Int),(⟨#[]⟩:BA),false,(⟨#[]⟩:BA),false,(⟨#[]⟩:BA),false,[],false⟩:qHb),false))
   else (
    (zcb_s v at_).bind fun r7 =>
    gd (0≤(0:Int)∧(0:Int)<r7.length) <|
    gd ((Int.toNat (0:Int))<r7.length) <|
    gd ((Int.toNat (0:Int))<r7.length) <|
    some ((⟨(r7.set (Int.toNat (0:Int)) (⟨(r7.getD (Int.toNat (0:Int)) (ET.dft .node)).kind,(⟨#[]⟩:BA),(r7.getD (Int.toNat (0:Int)) (ET.dft .node)).text,(r7.getD (Int.toNat (0:Int)) (ET.dft .node)).whole,(r7.getD (Int.toNat (0:Int)) (ET.dft .node)).int,(r7.getD (Int.toNat (0:Int)) (ET.dft .node)).kids⟩:Eng.Node)),r2,r3.1,r3.2.1,r4.1,r4.2.1,r5.1,r5.2.1,r6.1,r6.2.1⟩:qHb),true))))
def zbp_G:Nat→Option CQ:=tblQ [(26,zbs_w),(27,zbq_w),(28,zbr_w),(29,zcb_w)]
theorem zbp_Gok:∀f C,zbp_G f=some C→qAg Tryz.prog f C:=qAj ⟨zbs_ok,zbq_ok,zbr_ok,zcb_ok,tV⟩
def zbp_L:Nat→SubQ:=tblL []
theorem zbp_subs:qAn zbp_L zbp_G 1 22 114 zbp_q:=qAk (show qAq zbp_L zbp_G 1 22 114 [] from tV)
def zbp_da:=(qAb (dVC (dCO (dO 0))) (qAb (dVC (dCO dZ)) dNil))
def zbp_db:=(qAb (qBi .node) dNil)
def zbp_c:CS:=mkC zbp_da zbp_db (fun x y=>zbp_s y.1 x.2.1) (fun x y r=>.tup [.agg [.own 1,.vI r.1.kty,.vS r.1.kid,.vB r.1.hasKid,.vS r.1.use,.vB r.1.hasUse,.vS r.1.alg,.vB r.1.hasAlg,.own 2,.vB r.1.hasOps],.o (.vB r.2)]) fun x y r=>[.view .node y.1,.row .node 34 r.1.value,.row .str 9 r.1.ops]
theorem zbp_val:qAl Tryz.prog 14 zbp_c:=qAm zbp_chk 22 zbp_Gok 1 (fun x=>Nat.le_of_ble_eq_true rfl) (fun y=>rfl) zbp_subs fun x y=>by
 simp only [zbp_s,-eq_self,qAd,qAf,obA,obS,slL,slR,qAc];kernel_rfl
def zbp_w:CQ:=qBm [(0,none,some (.node,34))] (qBr [false] zbp_c)
theorem zbp_ok:qAg Tryz.prog 14 zbp_w:=qAu zbp_val
def zbo_b0:IQ:=(.loop [4,8,9,10] (.seq (.seq (rg 48 [oM 45 t10,oM 46 t9,oP 47 (.len t46),oP 48 (.bi .lss t45 t47)]) (.cond t48 .skip (.cn [8] (.exit 0)))) (.seq (.block 1 (.seq (rg 12 [oM 52 t4,oM 53 t9,oM 54 t10,oP 55 (.iaddr 1 t53 t54),oP 56 (.load none t55),oP 57 (.call 14 [t52,t56]),oM 51 t57,oP 58 (.extract t51 0),oP 59 (.extract t51 1),oP 11 (.alloc 40 [.slice none 0 0,.int .i64 0,.string ⟨#[]⟩,.bool false,.string ⟨#[]⟩,.bool false,.string ⟨#[]⟩,.bool false,.slice none 0 0,.bool false]),oN (.store 10 t11 t58),oM 12 t59]) (.seq (.seq (rg 61 [oM 60 t12,oP 61 (.un .not t60)]) (.cond t61 (.seq (rg 3 [oP 2 (.mv (.v (.slice none 0 0))),oP 3 (.mv (vI 100))]) (.canon [(2,none,(.bag [.rw .node,.int .i64,.str,.bool,.str,.bool,.str,.bool,.rw .str,.bool]),40)] [2,3] .ret)) .skip)) (rg 8 [oM 62 t8,oP 63 (.load (some 10) t11),oP 64 (.bslice 40 10 1 [.slice none 0 0,.int .i64 0,.string ⟨#[]⟩,.bool false,.string ⟨#[]⟩,.bool false,.string ⟨#[]⟩,.bool false,.slice none 0 0,.bool false] [(0,t63)]),oP 65 (.append 40 10 136 [.slice none 0 0,.int .i64 0,.string ⟨#[]⟩,.bool false,.string ⟨#[]⟩,.bool false,.string ⟨#[]⟩,.bool false,.slice none 0 0,.bool false] t62 t64),oM 8 t65])))) (rg 10 [oM 49 t10,oP 50 (.bi .add t49 (vI 1)),oM 10 t50]))))
def zbo_q:IQ:=(.seq (rg 3 [oP 2 (.mv (.v (.slice none 0 0))),oP 3 (.mv (vI 0))]) (.seq (.seq (rg 15 [oM 13 t0,oP 14 (.lenS t13),oP 15 (.bi .gtr t14 (vI 262144))]) (.cond t15 (.seq (rg 3 [oP 2 (.mv (.v (.slice none 0 0))),oP 3 (.mv (vI 10))]) (.canon [(2,none,(.bag [.rw .node,.int .i64,.str,.bool,.str,.bool,.str,.bool,.rw .str,.bool]),40)] [2,3] .ret)) .skip)) (.seq (rg 6 [oM 17 t0,oP 18 (.call 11 [t17]),oM 16 t18,oP 19 (.extract t16 0),oP 20 (.extract t16 1),oP 21 (.extract t16 2),oM 4 t19,oM 5 t20,oM 6 t21]) (.seq (.seq (rg 23 [oM 22 t5,oP 23 (.bi .neq t22 (vI 0))]) (.cond t23 (.seq (rg 3 [oM 24 t5,oP 2 (.mv (.v (.slice none 0 0))),oM 3 t24]) (.canon [(2,none,(.bag [.rw .node,.int .i64,.str,.bool,.str,.bool,.str,.bool,.rw .str,.bool]),40)] [2,3] .ret)) .skip)) (.seq (.seq (rg 29 [oM 25 t4,oP 26 (.iaddr 6 t25 (vI 0)),oP 27 (.faddr 0 t26),oP 28 (.load none t27),oP 29 (.bi .neq t28 (vI 7))]) (.cond t29 (.seq (rg 3 [oP 2 (.mv (.v (.slice none 0 0))),oP 3 (.mv (vI 100))]) (.canon [(2,none,(.bag [.rw .node,.int .i64,.str,.bool,.str,.bool,.str,.bool,.rw .str,.bool]),40)] [2,3] .ret)) .skip)) (.seq (rg 7 [oM 30 t4,oP 31 (.call 12 [t30,(vI 0),(.v (.string ⟨#[107,101,121,115]⟩))]),oM 7 t31]) (.seq (.seq (rg 41 [oM 32 t7,oP 33 (.bi .lss t32 (vI 0)),oM 34 t33,oE 35 (.mv t4) 34,oE 36 (.mv t7) 34,oE 37 (.iaddr 6 t35 t36) 34,oE 38 (.faddr 0 t37) 34,oE 39 (.load none t38) 34,oE 40 (.bi .neq t39 (vI 6)) 34,oP 41 (.pick t34 vT t40)]) (.cond t41 (.seq (rg 3 [oP 2 (.mv (.v (.slice none 0 0))),oP 3 (.mv (vI 100))]) (.canon [(2,none,(.bag [.rw .node,.int .i64,.str,.bool,.str,.bool,.str,.bool,.rw .str,.bool]),40)] [2,3] .ret)) .skip)) (.seq (rg 8 [oP 8 (.mv (.v (.slice none 0 0)))]) (.seq (rg 9 [oM 42 t4,oM 43 t7,oP 44 (.call 13 [t42,t43]),oM 9 t44]) (.seq (.seq (rg 10 [oP 10 (.mv (vI 0))]) (.block 0 (.canon [(8,none,(.bag [.rw .node,.int .i64,.str,.bool,.str,.bool,.str,.bool,.rw .str,.bool]),40)] [4,8,9,10] (.sub 0 zbo_b0)))) (.seq (rg 3 [oM 66 t8,oM 2 t66,oP 3 (.mv (vI 0))]) (.canon [(2,none,(.bag [.rw .node,.int .i64,.str,.bool,.str,.bool,.str,.bool,.rw .str,.bool]),40)] [2,3] .ret))))))))))))
theorem zbo_chk:chk Tryz.prog 5 []=some (zbo_q.erase,[.tmp 2,.tmp 3],67):=by kernel_rfl
def qD1 (i:Int) (v:List Eng.Node) (out:List ((List Eng.Node) × Int × BA × Bool × BA × Bool × BA × Bool × (List BA) × Bool × Unit)) (l:List Int):Option ((Int × (List ((List Eng.Node) × Int × BA × Bool × BA × Bool × BA × Bool × (List BA) × Bool × Unit))) ⊕ ((Int × (List ((List Eng.Node) × Int × BA × Bool × BA × Bool × BA × Bool × (List BA) × Bool × Unit))) ⊕ ((List ((List Eng.Node) × Int × BA × Bool × BA × Bool × BA × Bool × (List BA) × Bool × Unit))))) :=
 bif decide (i<(l.length:Int)) then (
  gd (0≤i∧i<l.length) <|
  gd ((Int.toNat i)<l.length) <|
  (zbp_s v (l.getD (Int.toNat i) (ET.dft .i64))).bind fun r16 =>
  bif (!r16.2) then (
   some (.inr (.inl ((100:Int),[]))))
  else (
   gd (out.length+([(r16.1.value,r16.1.kty,r16.1.kid,r16.1.hasKid,r16.1.use,r16.1.hasUse,r16.1.alg,r16.1.hasAlg,r16.1.ops,r16.1.hasOps,())]:List ((List Eng.Node) × Int × BA × Bool × BA × Bool × BA × Bool × (List BA) × Bool × Unit)).length≤9223372036854775807∧(out.length+([(r16.1.value,r16.1.kty,r16.1.kid,r16.1.hasKid,r16.1.use,r16.1.hasUse,r16.1.alg,r16.1.hasAlg,r16.1.ops,r16.1.hasOps,())]:List ((List Eng.Node) × Int × BA × Bool × BA × Bool × BA × Bool × (List BA) × Bool × Unit)).length)*136≤140737488355328) <|
   gd (qAe (i+(1:Int))) <|
   some (.inl ((i+(1:Int)),(out++[(r16.1.value,r16.1.kty,r16.1.kid,r16.1.hasKid,r16.1.use,r16.1.hasUse,r16.1.alg,r16.1.hasAlg,r16.1.ops,r16.1.hasOps,())])))))
 else (
  some (.inr (.inr out)))
def zbo_p0 (i:Int) (v:List Eng.Node) (out:List ((List Eng.Node) × Int × BA × Bool × BA × Bool × BA × Bool × (List BA) × Bool × Unit)) (l:List Int):Option ((Int × (List ((List Eng.Node) × Int × BA × Bool × BA × Bool × BA × Bool × (List BA) × Bool × Unit))) ⊕ ((List ((List Eng.Node) × Int × BA × Bool × BA × Bool × BA × Bool × (List BA) × Bool × Unit)))) :=
 qA0 (fun x:(Int × (List ((List Eng.Node) × Int × BA × Bool × BA × Bool × BA × Bool × (List BA) × Bool × Unit)))=>qD1 x.1 v x.2 l) (i,out)
def zbo_s (doc:BA):Option ((List ((List Eng.Node) × Int × BA × Bool × BA × Bool × BA × Bool × (List BA) × Bool × Unit)) × Int) :=
 bif decide ((262144:Int)<(doc.size:Int)) then (
  some ([],(10:Int)))
 else (
  (zca_s doc).bind fun r13 =>
  bif (!decide (r13.2.1=(0:Int))) then (
   some ([],r13.2.1))
  else (
   gd (0≤(0:Int)∧(0:Int)<r13.1.length) <|
   gd ((Int.toNat (0:Int))<r13.1.length) <|
   gd ((Int.toNat (0:Int))<r13.1.length) <|
   bif (!decide (((r13.1.getD (Int.toNat (0:Int)) (ET.dft .node)).kind)=(7:Int))) then (
    some ([],(100:Int)))
   else (
    (zbz_s r13.1 (0:Int) (⟨#[107,101,121,115]⟩:BA)).bind fun r14 =>
    gd ((decide (r14<(0:Int)))=false→0≤r14∧r14<r13.1.length) <|
    gd ((decide (r14<(0:Int)))=false→(Int.toNat r14)<r13.1.length) <|
    gd ((decide (r14<(0:Int)))=false→(Int.toNat r14)<r13.1.length) <|
    bif ((decide (r14<(0:Int))) || (!decide (((r13.1.getD (Int.toNat r14) (ET.dft .node)).kind)=(6:Int)))) then (
     some ([],(100:Int)))
    else (
     (zby_s r13.1 r14).bind fun r15 =>
     (zbo_p0 (0:Int) r13.1 [] r15).bind fun o17=>(Sum.elim (fun (o17_0:Int × (List ((List Eng.Node) × Int × BA × Bool × BA × Bool × BA × Bool × (List BA) × Bool × Unit))) =>
      some (o17_0.2,o17_0.1)) (fun (o17_1:(List ((List Eng.Node) × Int × BA × Bool × BA × Bool × BA × Bool × (List BA) × Bool × Unit))) =>
      some (o17_1,(0:Int)))) o17))))
def zbo_G:Nat→Option CQ:=tblQ [(11,zca_w),(12,zbz_w),(13,zby_w),(14,zbp_w)]
theorem zbo_Gok:∀f C,zbo_G f=some C→qAg Tryz.prog f C:=qAj ⟨zca_ok,zbz_ok,zby_ok,zbp_ok,tV⟩
def zbo_d0:=(dQS (qAb (dSO 4 (dO 0)) (qAb (dSO 8 (dBsl 1)) (qAb (dSO 9 (dO 2)) (qAb (dSO 10 dZ) dNil)))) (qAb (dRow .node 34) (qAb zDJK1 (qAb (dRow .i64 3) dNil))))
def zbo_l0:SubQ:=mkL zbo_d0 (fun x=>zbo_p0 x.1.2.2.2.1 x.2.1 x.2.2.1 x.2.2.2.1) fun x r R kn kx kr=>(Sum.elim (fun (r_0:Int × (List ((List Eng.Node) × Int × BA × Bool × BA × Bool × BA × Bool × (List BA) × Bool × Unit)))=>kr ⟨[sL 2 (.bsl 0),sL 3 (.vI r_0.1)],[],[.bag [.rw .node,.int .i64,.str,.bool,.str,.bool,.str,.bool,.rw .str,.bool] 40 r_0.2]⟩) (fun (r_1:(List ((List Eng.Node) × Int × BA × Bool × BA × Bool × BA × Bool × (List BA) × Bool × Unit)))=>kx 0 ⟨[sL 8 (.bsl 0)],[],[.bag [.rw .node,.int .i64,.str,.bool,.str,.bool,.str,.bool,.rw .str,.bool] 40 r_1]⟩)) r
def zbo_L:Nat→SubQ:=tblL [(0,zbo_l0)]
theorem zbo_sub0:qA4 zbo_L zbo_G 0 13 67 0 zbo_b0:=qAr (show zbo_L 0=zbo_l0 from by kernel_rfl) fun x R kn kx kr=>qAo (step:=fun y=>qD1 y.1 x.2.1 y.2 x.2.2.2.1) (enc:=fun (y:Int × (List ((List Eng.Node) × Int × BA × Bool × BA × Bool × BA × Bool × (List BA) × Bool × Unit)))=>zbo_d0.e ((x.1.1,x.1.2.1,x.1.2.2.1,y.1,x.1.2.2.2.2),(x.2.1,y.2,x.2.2.2))) (fun y=>by kernel_rfl) (fun y ki=>by simp only [qD1,-eq_self,qAd,qAf,obA,obS,slL,slR,qAc]; kernel_rfl) (x.1.2.2.2.1,x.2.2.1)
theorem zbo_subs:qAn zbo_L zbo_G 0 13 67 zbo_q:=qAk (show qAq zbo_L zbo_G 0 13 67 [(0,zbo_b0)] from ⟨zbo_sub0,tV⟩)
def zbo_da:=(qAb (dVC (dCO dS)) dNil)
def zbo_db:=(dNil:Dec Unit (List SB))
def zbo_c:CS:=mkC zbo_da zbo_db (fun x y=>zbo_s x.1) (fun x y r=>.tup [.o (.bsl 0),.o (.vI r.2)]) fun x y r=>[.bag [.rw .node,.int .i64,.str,.bool,.str,.bool,.str,.bool,.rw .str,.bool] 40 r.1]
theorem zbo_val:qAl Tryz.prog 5 zbo_c:=qAm zbo_chk 13 zbo_Gok 0 (fun x=>Nat.le_of_ble_eq_true rfl) (fun y=>rfl) zbo_subs fun x y=>by
 simp only [zbo_s,-eq_self,qAd,qAf,obA,obS,slL,slR,qAc];kernel_rfl
def zbo_w:CQ:=qBr [] zbo_c
theorem zbo_ok:qAg Tryz.prog 5 zbo_w:=qBc zbo_val
def zbn_b0:IQ:=(.loop [0,1,5] (.seq (.seq (rg 14 [oM 11 t5,oM 12 t0,oP 13 (.len t12),oP 14 (.bi .lss t11 t13)]) (.cond t14 .skip (.cn [] (.exit 0)))) (.seq (.block 1 (.seq (.reg 25 (some [0,1,2,3,4,5,6,7,8]) [oM 17 t0,oM 18 t5,oP 19 (.iaddr 1 t17 t18),oP 20 (.load none t19),oM 21 t1,oM 22 t5,oP 23 (.iaddr 1 t21 t22),oP 24 (.load none t23),oP 25 (.bi .neq t20 t24)]) (.cond t25 (.seq (rg 4 [oP 4 (.mv vF)]) (.cn [4] .ret)) .skip))) (rg 5 [oM 15 t5,oP 16 (.bi .add t15 (vI 1)),oM 5 t16]))))
def zbn_q:IQ:=(.seq (rg 4 [oP 4 (.mv vF)]) (.seq (.seq (rg 10 [oM 6 t0,oP 7 (.len t6),oM 8 t1,oP 9 (.len t8),oP 10 (.bi .neq t7 t9)]) (.cond t10 (.seq (rg 4 [oP 4 (.mv vF)]) (.cn [4] .ret)) .skip)) (.seq (.seq (rg 5 [oP 5 (.mv (vI 0))]) (.block 0 (.cn [0,1,5] (.sub 0 zbn_b0)))) (.seq (rg 4 [oP 4 (.mv vT)]) (.cn [4] .ret)))))
theorem zbn_chk:chk Tryz.prog 30 []=some (zbn_q.erase,[.tmp 4],26):=by kernel_rfl
def qFm (i:Int) (a b:List BA):Option (Int ⊕ (Bool ⊕ Unit)) :=
 bif decide (i<(a.length:Int)) then (
  gd (0≤i∧i<a.length) <|
  gd ((Int.toNat i)<a.length) <|
  gd (0≤i∧i<b.length) <|
  gd ((Int.toNat i)<b.length) <|
  bif (!decide ((a.getD (Int.toNat i) (ET.dft .str))=(b.getD (Int.toNat i) (ET.dft .str)))) then (
   some (.inr (.inl false)))
  else (
   gd (qAe (i+(1:Int))) <|
   some (.inl (i+(1:Int)))))
 else (
  some (.inr (.inr ())))
def zbn_p0 (i:Int) (a b:List BA):Option (Bool ⊕ Unit) :=
 qA0 (fun x:Int=>qFm x a b) i
def zbn_s (a b:(List BA)):Option Bool :=
 bif (!decide ((a.length:Int)=(b.length:Int))) then (
  some false)
 else (
  (zbn_p0 (0:Int) a b).bind fun o1=>(Sum.elim (fun (o1_0:Bool) =>
   some o1_0) (fun (o1_1:Unit) =>
   some true)) o1)
def zbn_G:Nat→Option CQ:=tblQ []
theorem zbn_Gok:∀f C,zbn_G f=some C→qAg Tryz.prog f C:=fun f C h=>by cases h
def zbn_d0:=(dQS (qAb (dSO 0 (dO 0)) (qAb (dSO 1 (dO 1)) (qAb (dSO 5 dZ) dNil))) (qAb (qBi .str) (qAb (qBi .str) dNil)))
def zbn_l0:SubQ:=mkL zbn_d0 (fun x=>zbn_p0 x.1.2.2.1 x.2.1 x.2.2.1) fun x r R kn kx kr=>(Sum.elim (fun (r_0:Bool)=>kr ⟨[sL 4 (.vB r_0)],[],[.view .str x.2.1,.view .str x.2.2.1]⟩) (fun (r_1:Unit)=>kx 0 ⟨[],[],[.view .str x.2.1,.view .str x.2.2.1]⟩)) r
def zbn_L:Nat→SubQ:=tblL [(0,zbn_l0)]
theorem zbn_sub0:qA4 zbn_L zbn_G 2 6 26 0 zbn_b0:=qAr (show zbn_L 0=zbn_l0 from by kernel_rfl) fun x R kn kx kr=>qAo (step:=fun y=>qFm y x.2.1 x.2.2.1) (enc:=fun (y:Int)=>zbn_d0.e ((x.1.1,x.1.2.1,y,x.1.2.2.2),x.2)) (fun y=>by kernel_rfl) (fun y ki=>by simp only [qFm,-eq_self,qAd,qAf,obA,obS,slL,slR,qAc]; kernel_rfl) x.1.2.2.1
theorem zbn_subs:qAn zbn_L zbn_G 2 6 26 zbn_q:=qAk (show qAq zbn_L zbn_G 2 6 26 [(0,zbn_b0)] from ⟨zbn_sub0,tV⟩)
def zbn_da:=(qAb (dVC (dCO (dO 0))) (qAb (dVC (dCO (dO 1))) dNil))
def zbn_db:=(qAb (qBi .str) (qAb (qBi .str) dNil))
def zbn_c:CS:=mkC zbn_da zbn_db (fun x y=>zbn_s y.1 y.2.1) (fun x y r=>.c (.o (.vB r))) fun x y r=>[.view .str y.1,.view .str y.2.1]
theorem zbn_val:qAl Tryz.prog 30 zbn_c:=qAm zbn_chk 6 zbn_Gok 2 (fun x=>Nat.le_of_ble_eq_true rfl) (fun y=>rfl) zbn_subs fun x y=>by
 simp only [zbn_s,-eq_self,qAd,qAf,obA,obS,slL,slR,qAc];kernel_rfl
def zbn_w:CQ:=nestQ (qBm [(0,none,some (.str,9)),(1,none,some (.str,9))] (qCj [false,false] zbn_c))
theorem zbn_ok:qAg Tryz.prog 30 zbn_w:=(fun h=>nestQ_valid (prep_nat (liftH_nat h.1)) (qB1 h)) zbn_val
def zbm_b0:IQ:=(.loop [0,1,5] (.seq (.seq (rg 14 [oM 11 t5,oM 12 t0,oP 13 (.len t12),oP 14 (.bi .lss t11 t13)]) (.cond t14 .skip (.cn [] (.exit 0)))) (.seq (.block 1 (.seq (.reg 25 (some [0,1,2,3,4,5,6,7,8]) [oM 17 t0,oM 18 t5,oP 19 (.iaddr 6 t17 t18),oP 20 (.load (some 6) t19),oM 21 t1,oM 22 t5,oP 23 (.iaddr 6 t21 t22),oP 24 (.load (some 6) t23),oP 25 (.ext (.aggEq true [.int .i64,.str,.str,.bool,.int .i64,.int .i64]) [t20,t24])]) (.cond t25 (.seq (rg 4 [oP 4 (.mv vF)]) (.cn [4] .ret)) .skip))) (rg 5 [oM 15 t5,oP 16 (.bi .add t15 (vI 1)),oM 5 t16]))))
def zbm_q:IQ:=(.seq (rg 4 [oP 4 (.mv vF)]) (.seq (.seq (rg 10 [oM 6 t0,oP 7 (.len t6),oM 8 t1,oP 9 (.len t8),oP 10 (.bi .neq t7 t9)]) (.cond t10 (.seq (rg 4 [oP 4 (.mv vF)]) (.cn [4] .ret)) .skip)) (.seq (.seq (rg 5 [oP 5 (.mv (vI 0))]) (.block 0 (.cn [0,1,5] (.sub 0 zbm_b0)))) (.seq (rg 4 [oP 4 (.mv vT)]) (.cn [4] .ret)))))
theorem zbm_chk:chk Tryz.prog 31 []=some (zbm_q.erase,[.tmp 4],26):=by kernel_rfl
def qFt (i:Int) (a b:List Eng.Node):Option (Int ⊕ (Bool ⊕ Unit)) :=
 bif decide (i<(a.length:Int)) then (
  gd (0≤i∧i<a.length) <|
  gd ((Int.toNat i)<a.length) <|
  gd (0≤i∧i<b.length) <|
  gd ((Int.toNat i)<b.length) <|
  bif (!(decide (((a.getD (Int.toNat i) (ET.dft .node)).kind)=((b.getD (Int.toNat i) (ET.dft .node)).kind)) && (decide (((a.getD (Int.toNat i) (ET.dft .node)).key)=((b.getD (Int.toNat i) (ET.dft .node)).key)) && (decide (((a.getD (Int.toNat i) (ET.dft .node)).text)=((b.getD (Int.toNat i) (ET.dft .node)).text)) && ((((a.getD (Int.toNat i) (ET.dft .node)).whole) == ((b.getD (Int.toNat i) (ET.dft .node)).whole)) && (decide (((a.getD (Int.toNat i) (ET.dft .node)).int)=((b.getD (Int.toNat i) (ET.dft .node)).int)) && (decide (((a.getD (Int.toNat i) (ET.dft .node)).kids)=((b.getD (Int.toNat i) (ET.dft .node)).kids)) && true))))))) then (
   some (.inr (.inl false)))
  else (
   gd (qAe (i+(1:Int))) <|
   some (.inl (i+(1:Int)))))
 else (
  some (.inr (.inr ())))
def zbm_p0 (i:Int) (a b:List Eng.Node):Option (Bool ⊕ Unit) :=
 qA0 (fun x:Int=>qFt x a b) i
def zbm_s (a b:(List Eng.Node)):Option Bool :=
 bif (!decide ((a.length:Int)=(b.length:Int))) then (
  some false)
 else (
  (zbm_p0 (0:Int) a b).bind fun o1=>(Sum.elim (fun (o1_0:Bool) =>
   some o1_0) (fun (o1_1:Unit) =>
   some true)) o1)
def zbm_G:Nat→Option CQ:=tblQ []
theorem zbm_Gok:∀f C,zbm_G f=some C→qAg Tryz.prog f C:=fun f C h=>by cases h
def zbm_d0:=(dQS (qAb (dSO 0 (dO 0)) (qAb (dSO 1 (dO 1)) (qAb (dSO 5 dZ) dNil))) (qAb (qBi .node) (qAb (qBi .node) dNil)))
def zbm_l0:SubQ:=mkL zbm_d0 (fun x=>zbm_p0 x.1.2.2.1 x.2.1 x.2.2.1) fun x r R kn kx kr=>(Sum.elim (fun (r_0:Bool)=>kr ⟨[sL 4 (.vB r_0)],[],[.view .node x.2.1,.view .node x.2.2.1]⟩) (fun (r_1:Unit)=>kx 0 ⟨[],[],[.view .node x.2.1,.view .node x.2.2.1]⟩)) r
def zbm_L:Nat→SubQ:=tblL [(0,zbm_l0)]
theorem zbm_sub0:qA4 zbm_L zbm_G 2 6 26 0 zbm_b0:=qAr (show zbm_L 0=zbm_l0 from by kernel_rfl) fun x R kn kx kr=>qAo (step:=fun y=>qFt y x.2.1 x.2.2.1) (enc:=fun (y:Int)=>zbm_d0.e ((x.1.1,x.1.2.1,y,x.1.2.2.2),x.2)) (fun y=>by kernel_rfl) (fun y ki=>by simp only [qFt,-eq_self,qAd,qAf,obA,obS,slL,slR,qAc]; kernel_rfl) x.1.2.2.1
theorem zbm_subs:qAn zbm_L zbm_G 2 6 26 zbm_q:=qAk (show qAq zbm_L zbm_G 2 6 26 [(0,zbm_b0)] from ⟨zbm_sub0,tV⟩)
def zbm_da:=(qAb (dVC (dCO (dO 0))) (qAb (dVC (dCO (dO 1))) dNil))
def zbm_db:=(qAb (qBi .node) (qAb (qBi .node) dNil))
def zbm_c:CS:=mkC zbm_da zbm_db (fun x y=>zbm_s y.1 y.2.1) (fun x y r=>.c (.o (.vB r))) fun x y r=>[.view .node y.1,.view .node y.2.1]
theorem zbm_val:qAl Tryz.prog 31 zbm_c:=qAm zbm_chk 6 zbm_Gok 2 (fun x=>Nat.le_of_ble_eq_true rfl) (fun y=>rfl) zbm_subs fun x y=>by
 simp only [zbm_s,-eq_self,qAd,qAf,obA,obS,slL,slR,qAc];kernel_rfl
def zbm_w:CQ:=nestQ (qBm [(0,none,some (.node,34)),(1,none,some (.node,34))] (qCj [false,false] zbm_c))
theorem zbm_ok:qAg Tryz.prog 31 zbm_w:=(fun h=>nestQ_valid (prep_nat (liftH_nat h.1)) (qB1 h)) zbm_val
def zbk_q:IQ:=(.seq (rg 4 [oP 2 (.box 40 10 t0),oP 3 (.box 40 10 t1),oP 4 (.mv vF)]) (.seq (rg 4 [oP 5 (.faddr 1 t2),oP 6 (.load none t5),oP 7 (.faddr 1 t3),oP 8 (.load none t7),oP 9 (.bi .eql t6 t8),oM 10 t9,oF 11 (.faddr 2 t2) 10,oF 12 (.load none t11) 10,oF 13 (.faddr 2 t3) 10,oF 14 (.load none t13) 10,oF 15 (.bi .eql t12 t14) 10,oP 16 (.pick t10 t15 vF),oM 17 t16,oF 18 (.faddr 3 t2) 17,oF 19 (.load none t18) 17,oF 20 (.faddr 3 t3) 17,oF 21 (.load none t20) 17,oF 22 (.beq false t19 t21) 17,oP 23 (.pick t17 t22 vF),oM 24 t23,oF 25 (.faddr 4 t2) 24,oF 26 (.load none t25) 24,oF 27 (.faddr 4 t3) 24,oF 28 (.load none t27) 24,oF 29 (.bi .eql t26 t28) 24,oP 30 (.pick t24 t29 vF),oM 31 t30,oF 32 (.faddr 5 t2) 31,oF 33 (.load none t32) 31,oF 34 (.faddr 5 t3) 31,oF 35 (.load none t34) 31,oF 36 (.beq false t33 t35) 31,oP 37 (.pick t31 t36 vF),oM 38 t37,oF 39 (.faddr 6 t2) 38,oF 40 (.load none t39) 38,oF 41 (.faddr 6 t3) 38,oF 42 (.load none t41) 38,oF 43 (.bi .eql t40 t42) 38,oP 44 (.pick t38 t43 vF),oM 45 t44,oF 46 (.faddr 7 t2) 45,oF 47 (.load none t46) 45,oF 48 (.faddr 7 t3) 45,oF 49 (.load none t48) 45,oF 50 (.beq false t47 t49) 45,oP 51 (.pick t45 t50 vF),oM 52 t51,oF 53 (.faddr 9 t2) 52,oF 54 (.load none t53) 52,oF 55 (.faddr 9 t3) 52,oF 56 (.load none t55) 52,oF 57 (.beq false t54 t56) 52,oP 58 (.pick t52 t57 vF),oM 59 t58,oF 60 (.faddr 8 t2) 59,oF 61 (.load none t60) 59,oF 62 (.faddr 8 t3) 59,oF 63 (.load none t62) 59,oF 64 (.call 30 [t61,t63]) 59,oP 65 (.pick t59 t64 vF),oM 66 t65,oF 67 (.faddr 0 t2) 66,oF 68 (.load none t67) 66,oF 69 (.faddr 0 t3) 66,oF 70 (.load none t69) 66,oF 71 (.call 31 [t68,t70]) 66,oP 72 (.pick t66 t71 vF),oM 4 t72]) (.cn [4] .ret)))
theorem zbk_chk:chk Tryz.prog 15 []=some (zbk_q.erase,[.tmp 4],73):=by kernel_rfl
def zbk_s (a b:qHb):Option Bool :=
 bif ((((((((decide (a.kty=b.kty)) && (decide (a.kid=b.kid))) && (a.hasKid == b.hasKid)) && (decide (a.use=b.use))) && (a.hasUse == b.hasUse)) && (decide (a.alg=b.alg))) && (a.hasAlg == b.hasAlg)) && (a.hasOps == b.hasOps)) then (
  (zbn_s a.ops b.ops).bind fun r1 =>
  bif r1 then (
   (zbm_s a.value b.value).bind fun r2 =>
   some r2)
  else (
   some false))
 else (
  some false)
def zbk_G:Nat→Option CQ:=tblQ [(30,zbn_w),(31,zbm_w)]
theorem zbk_Gok:∀f C,zbk_G f=some C→qAg Tryz.prog f C:=qAj ⟨zbn_ok,zbm_ok,tV⟩
def zbk_L:Nat→SubQ:=tblL []
theorem zbk_subs:qAn zbk_L zbk_G 4 5 73 zbk_q:=qAk (show qAq zbk_L zbk_G 4 5 73 [] from tV)
def zbk_da:=(qAb (dVC (dCA (qAb (dO 0) (qAb dZ (qAb dS (qAb dB (qAb dS (qAb dB (qAb dS (qAb dB (qAb (dO 1) (qAb dB dNil)))))))))))) (qAb (dVC (dCA (qAb (dO 2) (qAb dZ (qAb dS (qAb dB (qAb dS (qAb dB (qAb dS (qAb dB (qAb (dO 3) (qAb dB dNil)))))))))))) dNil))
def zbk_db:=(qAb (qBi .node) (qAb (qBi .str) (qAb (qBi .node) (qAb (qBi .str) dNil))))
def zbk_c:CS:=mkC zbk_da zbk_db (fun x y=>zbk_s (⟨y.1,x.1.2.1,x.1.2.2.1,x.1.2.2.2.1,x.1.2.2.2.2.1,x.1.2.2.2.2.2.1,x.1.2.2.2.2.2.2.1,x.1.2.2.2.2.2.2.2.1,y.2.1,x.1.2.2.2.2.2.2.2.2.2.1⟩:qHb) (⟨y.2.2.1,x.2.1.2.1,x.2.1.2.2.1,x.2.1.2.2.2.1,x.2.1.2.2.2.2.1,x.2.1.2.2.2.2.2.1,x.2.1.2.2.2.2.2.2.1,x.2.1.2.2.2.2.2.2.2.1,y.2.2.2.1,x.2.1.2.2.2.2.2.2.2.2.2.1⟩:qHb)) (fun x y r=>.c (.o (.vB r))) fun x y r=>[.view .node y.1,.view .str y.2.1,.view .node y.2.2.1,.view .str y.2.2.2.1]
theorem zbk_val:qAl Tryz.prog 15 zbk_c:=qAm zbk_chk 5 zbk_Gok 4 (fun x=>Nat.le_of_ble_eq_true rfl) (fun y=>rfl) zbk_subs fun x y=>by
 simp only [zbk_s,-eq_self,qAd,qAf,obA,obS,slL,slR,qAc];kernel_rfl
def zbk_w:CQ:=nestQ (qBm [(0,some 0,some (.node,34)),(0,some 8,some (.str,9)),(1,some 0,some (.node,34)),(1,some 8,some (.str,9))] (qCj [false,false,false,false] zbk_c))
theorem zbk_ok:qAg Tryz.prog 15 zbk_w:=(fun h=>nestQ_valid (prep_nat (liftH_nat h.1)) (qB1 h)) zbk_val
def zbl_b0:IQ:=(.loop [0,1,5] (.seq (.seq (rg 14 [oM 11 t5,oM 12 t0,oP 13 (.len t12),oP 14 (.bi .lss t11 t13)]) (.cond t14 .skip (.cn [] (.exit 0)))) (.seq (.block 1 (.seq (.reg 26 (some [0,1,2,3,4,5,6,7,8,9]) [oM 17 t0,oM 18 t5,oP 19 (.iaddr 10 t17 t18),oP 20 (.load (some 10) t19),oM 21 t1,oM 22 t5,oP 23 (.iaddr 10 t21 t22),oP 24 (.load (some 10) t23),oP 25 (.call 15 [t20,t24]),oP 26 (.un .not t25)]) (.cond t26 (.seq (rg 4 [oP 4 (.mv vF)]) (.cn [4] .ret)) .skip))) (rg 5 [oM 15 t5,oP 16 (.bi .add t15 (vI 1)),oM 5 t16]))))
def zbl_q:IQ:=(.seq (rg 4 [oP 4 (.mv vF)]) (.seq (.seq (rg 10 [oM 6 t0,oP 7 (.len t6),oM 8 t1,oP 9 (.len t8),oP 10 (.bi .neq t7 t9)]) (.cond t10 (.seq (rg 4 [oP 4 (.mv vF)]) (.cn [4] .ret)) .skip)) (.seq (.seq (rg 5 [oP 5 (.mv (vI 0))]) (.block 0 (.cn [0,1,5] (.sub 0 zbl_b0)))) (.seq (rg 4 [oP 4 (.mv vT)]) (.cn [4] .ret)))))
theorem zbl_chk:chk Tryz.prog 6 []=some (zbl_q.erase,[.tmp 4],27):=by kernel_rfl
def qFa (i:Int) (a b:List ((List Eng.Node) × Int × BA × Bool × BA × Bool × BA × Bool × (List BA) × Bool × Unit)):Option (Int ⊕ (Bool ⊕ Unit)) :=
 bif decide (i<(a.length:Int)) then (
  gd (0≤i∧i<a.length) <|
  gd ((Int.toNat i)<a.length) <|
  gd (0≤i∧i<b.length) <|
  gd ((Int.toNat i)<b.length) <|
  gd ((Int.toNat i)<a.length) <|
  gd ((Int.toNat i)<a.length) <|
  gd ((Int.toNat i)<b.length) <|
  gd ((Int.toNat i)<b.length) <|
  gd ((Int.toNat i)<a.length) <|
  gd ((Int.toNat i)<a.length) <|
  gd ((Int.toNat i)<b.length) <|
  gd ((Int.toNat i)<b.length) <|
  (zbk_s (⟨(a.getD (Int.toNat i) (NT.dft [.rw .node,.int .i64,.str,.bool,.str,.bool,.str,.bool,.rw .str,.bool])).1,(a.getD (Int.toNat i) (NT.dft [.rw .node,.int .i64,.str,.bool,.str,.bool,.str,.bool,.rw .str,.bool])).2.1,(a.getD (Int.toNat i) (NT.dft [.rw .node,.int .i64,.str,.bool,.str,.bool,.str,.bool,.rw .str,.bool])).2.2.1,(a.getD (Int.toNat i) (NT.dft [.rw .node,.int .i64,.str,.bool,.str,.bool,.str,.bool,.rw .str,.bool])).2.2.2.1,(a.getD (Int.toNat i) (NT.dft [.rw .node,.int .i64,.str,.bool,.str,.bool,.str,.bool,.rw .str,.bool])).2.2.2.2.1,(a.getD (Int.toNat i) (NT.dft [.rw .node,.int .i64,.str,.bool,.str,.bool,.str,.bool,.rw .str,.bool])).2.2.2.2.2.1,(a.getD (Int.toNat i) (NT.dft [.rw .node,.int .i64,.str,.bool,.str,.bool,.str,.bool,.rw .str,.bool])).2.2.2.2.2.2.1,(a.getD (Int.toNat i) (NT.dft [.rw .node,.int .i64,.str,.bool,.str,.bool,.str,.bool,.rw .str,.bool])).2.2.2.2.2.2.2.1,(a.getD (Int.toNat i) (NT.dft [.rw .node,.int .i64,.str,.bool,.str,.bool,.str,.bool,.rw .str,.bool])).2.2.2.2.2.2.2.2.1,(a.getD (Int.toNat i) (NT.dft [.rw .node,.int .i64,.str,.bool,.str,.bool,.str,.bool,.rw .str,.bool])).2.2.2.2.2.2.2.2.2.1⟩:qHb) (⟨(b.getD (Int.toNat i) (NT.dft [.rw .node,.int .i64,.str,.bool,.str,.bool,.str,.bool,.rw .str,.bool])).1,(b.getD (Int.toNat i) (NT.dft [.rw .node,.int .i64,.str,.bool,.str,.bool,.str,.bool,.rw .str,.bool])).2.1,(b.getD (Int.toNat i) (NT.dft [.rw .node,.int .i64,.str,.bool,.str,.bool,.str,.bool,.rw .str,.bool])).2.2.1,(b.getD (Int.toNat i) (NT.dft [.rw .node,.int .i64,.str,.bool,.str,.bool,.str,.bool,.rw .str,.bool])).2.2.2.1,(b.getD (Int.toNat i) (NT.dft [.rw .node,.int .i64,.str,.bool,.str,.bool,.str,.bool,.rw .str,.bool])).2.2.2.2.1,(b.getD (Int.toNat i) (NT.dft [.rw .node,.int .i64,.str,.bool,.str,.bool,.str,.bool,.rw .str,.bool])).2.2.2.2.2.1,(b.getD (Int.toNat i) (NT.dft [.rw .node,.int .i64,.str,.bool,.str,.bool,.str,.bool,.rw .str,.bool])).2.2.2.2.2.2.1,(b.getD (Int.toNat i) (NT.dft [.rw .node,.int .i64,.str,.bool,.str,.bool,.str,.bool,.rw .str,.bool])).2.2.2.2.2.2.2.1,(b.getD (Int.toNat i) (NT.dft [.rw .node,.int .i64,.str,.bool,.str,.bool,.str,.bool,.rw .str,.bool])).2.2.2.2.2.2.2.2.1,(b.getD (Int.toNat i) (NT.dft [.rw .node,.int .i64,.str,.bool,.str,.bool,.str,.bool,.rw .str,.bool])).2.2.2.2.2.2.2.2.2.1⟩:qHb)).bind fun r2 =>
  bif (!r2) then (
   some (.inr (.inl false)))
  else (
   gd (qAe (i+(1:Int))) <|
   some (.inl (i+(1:Int)))))
 else (
  some (.inr (.inr ())))
def zbl_p0 (i:Int) (a b:List ((List Eng.Node) × Int × BA × Bool × BA × Bool × BA × Bool × (List BA) × Bool × Unit)):Option (Bool ⊕ Unit) :=
 qA0 (fun x:Int=>qFa x a b) i
def zbl_s (a b:(List ((List Eng.Node) × Int × BA × Bool × BA × Bool × BA × Bool × (List BA) × Bool × Unit))):Option Bool :=
 bif (!decide ((a.length:Int)=(b.length:Int))) then (
  some false)
 else (
  (zbl_p0 (0:Int) a b).bind fun o3=>(Sum.elim (fun (o3_0:Bool) =>
   some o3_0) (fun (o3_1:Unit) =>
   some true)) o3)
def zbl_G:Nat→Option CQ:=tblQ [(15,zbk_w)]
theorem zbl_Gok:∀f C,zbl_G f=some C→qAg Tryz.prog f C:=qAj ⟨zbk_ok,tV⟩
def zbl_d0:=(dQS (qAb (dSO 0 (dBsl 0)) (qAb (dSO 1 (dBsl 1)) (qAb (dSO 5 dZ) dNil))) (qAb zDJK1 (qAb zDJK1 dNil)))
def zbl_l0:SubQ:=mkL zbl_d0 (fun x=>zbl_p0 x.1.2.2.1 x.2.1 x.2.2.1) fun x r R kn kx kr=>(Sum.elim (fun (r_0:Bool)=>kr ⟨[sL 4 (.vB r_0)],[],[.bag [.rw .node,.int .i64,.str,.bool,.str,.bool,.str,.bool,.rw .str,.bool] 40 x.2.1,.bag [.rw .node,.int .i64,.str,.bool,.str,.bool,.str,.bool,.rw .str,.bool] 40 x.2.2.1]⟩) (fun (r_1:Unit)=>kx 0 ⟨[],[],[.bag [.rw .node,.int .i64,.str,.bool,.str,.bool,.str,.bool,.rw .str,.bool] 40 x.2.1,.bag [.rw .node,.int .i64,.str,.bool,.str,.bool,.str,.bool,.rw .str,.bool] 40 x.2.2.1]⟩)) r
def zbl_L:Nat→SubQ:=tblL [(0,zbl_l0)]
theorem zbl_sub0:qA4 zbl_L zbl_G 2 6 27 0 zbl_b0:=qAr (show zbl_L 0=zbl_l0 from by kernel_rfl) fun x R kn kx kr=>qAo (step:=fun y=>qFa y x.2.1 x.2.2.1) (enc:=fun (y:Int)=>zbl_d0.e ((x.1.1,x.1.2.1,y,x.1.2.2.2),x.2)) (fun y=>by kernel_rfl) (fun y ki=>by simp only [qFa,-eq_self,qAd,qAf,obA,obS,slL,slR,qAc]; kernel_rfl) x.1.2.2.1
theorem zbl_subs:qAn zbl_L zbl_G 2 6 27 zbl_q:=qAk (show qAq zbl_L zbl_G 2 6 27 [(0,zbl_b0)] from ⟨zbl_sub0,tV⟩)
def zbl_da:=(qAb (dVC (dCO (dBsl 0))) (qAb (dVC (dCO (dBsl 1))) dNil))
def zbl_db:=(qAb zDJK1 (qAb zDJK1 dNil))
def zbl_c:CS:=mkC zbl_da zbl_db (fun x y=>zbl_s y.1 y.2.1) (fun x y r=>.c (.o (.vB r))) fun x y r=>[.bag [.rw .node,.int .i64,.str,.bool,.str,.bool,.str,.bool,.rw .str,.bool] 40 y.1,.bag [.rw .node,.int .i64,.str,.bool,.str,.bool,.str,.bool,.rw .str,.bool] 40 y.2.1]
theorem zbl_val:qAl Tryz.prog 6 zbl_c:=qAm zbl_chk 6 zbl_Gok 2 (fun x=>Nat.le_of_ble_eq_true rfl) (fun y=>rfl) zbl_subs fun x y=>by
 simp only [zbl_s,-eq_self,qAd,qAf,obA,obS,slL,slR,qAc];kernel_rfl
def zbl_w:CQ:=qBm [(0,none,some ((.bag [.rw .node,.int .i64,.str,.bool,.str,.bool,.str,.bool,.rw .str,.bool]),40)),(1,none,some ((.bag [.rw .node,.int .i64,.str,.bool,.str,.bool,.str,.bool,.rw .str,.bool]),40))] (qBr [true,true] zbl_c)
theorem zbl_ok:qAg Tryz.prog 6 zbl_w:=qAu zbl_val
def zbj_q:IQ:=(.seq (rg 2 [oP 2 (.mv vF)]) (.seq (rg 4 [oM 8 t0,oP 9 (.call 4 [t8]),oM 7 t9,oP 10 (.extract t7 0),oP 11 (.extract t7 1),oM 3 t10,oM 4 t11]) (.seq (rg 6 [oM 13 t0,oP 14 (.call 5 [t13]),oM 12 t14,oP 15 (.extract t12 0),oP 16 (.extract t12 1),oM 5 t15,oM 6 t16]) (.seq (rg 2 [oM 17 t4,oM 18 t6,oP 19 (.bi .eql t17 t18),oM 20 t19,oF 21 (.mv t3) 20,oF 22 (.mv t5) 20,oF 23 (.call 6 [t21,t22]) 20,oP 24 (.pick t20 t23 vF),oM 2 t24]) (.cn [2] .ret)))))
theorem zbj_chk:chk Tryz.prog 3 []=some (zbj_q.erase,[.tmp 2],25):=by kernel_rfl
def zbj_s (doc:BA):Option Bool :=
 (zbe_s doc).bind fun r1 =>
 (zbo_s doc).bind fun r2 =>
 bif decide (r1.2=r2.2) then (
  (zbl_s r1.1 r2.1).bind fun r3 =>
  some r3)
 else (
  some false)
def zbj_G:Nat→Option CQ:=tblQ [(4,zbe_w),(5,zbo_w),(6,zbl_w)]
theorem zbj_Gok:∀f C,zbj_G f=some C→qAg Tryz.prog f C:=qAj ⟨zbe_ok,zbo_ok,zbl_ok,tV⟩
def zbj_L:Nat→SubQ:=tblL []
theorem zbj_subs:qAn zbj_L zbj_G 0 7 25 zbj_q:=qAk (show qAq zbj_L zbj_G 0 7 25 [] from tV)
def zbj_da:=(qAb (dVC (dCO dS)) dNil)
def zbj_db:=(dNil:Dec Unit (List SB))
def zbj_c:CS:=mkC zbj_da zbj_db (fun x y=>zbj_s x.1) (fun x y r=>.c (.o (.vB r))) fun x y r=>[]
theorem zbj_val:qAl Tryz.prog 3 zbj_c:=qAm zbj_chk 7 zbj_Gok 0 (fun x=>Nat.le_of_ble_eq_true rfl) (fun y=>rfl) zbj_subs fun x y=>by
 simp only [zbj_s,-eq_self,qAd,qAf,obA,obS,slL,slR,qAc];kernel_rfl
end
end Go.Proofs.YtnifdcmeffnpaaaGreatDoor
