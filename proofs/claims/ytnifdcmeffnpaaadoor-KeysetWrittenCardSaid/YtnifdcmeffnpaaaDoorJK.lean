/-
  Functions as the engine reads them (printed by gen.py).
-/
import Derived.Test.YtnifdcmeffnpaaaDoorEngO
import Derived.Test.YtnifdcmeffnpaaaDoorProg
import Derived.Test.YtnifdcmeffnpaaaDoorUtf8
import Derived.Test.YtnifdcmeffnpaaaDoorClone
import Derived.Test.YtnifdcmeffnpaaaDoorGC
import Derived.Test.YtnifdcmeffnpaaaDoorPUtf
import Derived.Test.YtnifdcmeffnpaaaDoorJP
import Derived.Test.YtnifdcmeffnpaaaDoorJW
namespace Go.Proofs.YtnifdcmeffnpaaaDoor
open Go.Eng
set_option linter.unusedVariables false
set_option linter.unusedSimpArgs false
set_option maxRecDepth 100000
noncomputable section
structure keyset_reader where
 v:(List Eng.Node)
 at_:Int
 bad:Bool
structure qHj where
 value:(List Eng.Node)
 kty:Int
 kid:BA
 hasKid:Bool
 use:BA
 hasUse:Bool
 alg:BA
 hasAlg:Bool
 ops:(List BA)
 hasOps:Bool
def zbr_q:IQ:=(.seq (rg 5 [oP 4 (.mv (.v (.string ⟨#[]⟩))),oP 5 (.mv vF)]) (.seq (.reg 6 (some [0,1,2,3,4,5,6,7,8,9,10]) (rF 7 t0 0++rF 11 t0 1++[oM 15 t1,oP 16 (.call 9 [t10,t14,t15]),oM 6 t16])) (.seq (.seq (rg 18 [oM 17 t6,oP 18 (.bi .lss t17 (vI 0))]) (.cond t18 (.seq (rg 5 [oP 4 (.mv (.v (.string ⟨#[]⟩))),oP 5 (.mv vF)]) (.cn [4,5] .ret)) .skip)) (.seq (.seq (rg 27 (rF 19 t0 0++[oM 23 t6,oP 24 (.iaddr 6 t22 t23),oP 25 (.faddr 0 t24),oP 26 (.load none t25),oP 27 (.bi .neq t26 (vI 5))])) (.cond t27 (.seq (rg 0 ([oM 28 t0]++rS 29 t28 2 vT)) (.seq (rg 5 [oP 4 (.mv (.v (.string ⟨#[]⟩))),oP 5 (.mv vF)]) (.cn [4,5] .ret))) .skip)) (.seq (rg 5 (rF 31 t0 0++[oM 35 t6,oP 36 (.iaddr 6 t34 t35),oP 37 (.faddr 2 t36),oP 38 (.load none t37),oM 4 t38,oP 5 (.mv vT)])) (.cn [4,5] .ret))))))
theorem zbr_chk:chk Tryd.prog 31 []=some (zbr_q.erase,[.tmp 4,.tmp 5],39):=by kernel_rfl
def zbr_s (r_:keyset_reader) (name:BA):Option (keyset_reader × BA × Bool) :=
 (zaj_s r_.v r_.at_ name).bind fun r2 =>
 bif decide (r2<(0:Int)) then (
  some (r_,(⟨#[]⟩:BA),false))
 else (
  gd (0≤r2∧r2<r_.v.length) <|
  gd ((Int.toNat r2)<r_.v.length) <|
  gd ((Int.toNat r2)<r_.v.length) <|
  bif (!decide (((r_.v.getD (Int.toNat r2) (ET.dft .node)).kind)=(5:Int))) then (
   some ((⟨r_.v,r_.at_,true⟩:keyset_reader),(⟨#[]⟩:BA),false))
  else (
   gd (0≤r2∧r2<r_.v.length) <|
   gd ((Int.toNat r2)<r_.v.length) <|
   gd ((Int.toNat r2)<r_.v.length) <|
   some (r_,(r_.v.getD (Int.toNat r2) (ET.dft .node)).text,true)))
def zbr_G:Nat→Option CQ:=tblQ [(9,zaj_w)]
theorem zbr_Gok:∀f C,zbr_G f=some C→qAe Tryd.prog f C:=qAi ⟨zaj_ok,tV⟩
def zbr_L:Nat→SubQ:=tblL []
theorem zbr_subs:qAo zbr_L zbr_G 2 7 39 zbr_q:=qAk (show qAr zbr_L zbr_G 2 7 39 [] from tV)
def zbr_da:=(qAb (dVC (dCO (dH 0 0))) (qAb (dVC (dCO dS)) dNil))
def zDJK3:=(dCells 71 (qAb (dO 1) (qAb dZ (qAb dB dNil))))
def zbr_db:=(qAb zDJK3 (qAb (qBh .node) dNil))
def zbr_c:CS:=mkC zbr_da zbr_db (fun x y=>zbr_s (⟨y.2.1,y.1.2.1,y.1.2.2.1⟩:keyset_reader) x.2.1) (fun x y r=>.tup [.o (.vS r.2.1),.o (.vB r.2.2)]) fun x y r=>[.cells 71 [.own 1,.vI r.1.at_,.vB r.1.bad],.view .node y.2.1]
theorem zbr_val:qAl Tryd.prog 31 zbr_c:=qAn zbr_chk 7 zbr_Gok 2 (fun x=>Nat.le_of_ble_eq_true rfl) (fun y=>rfl) zbr_subs fun x y=>by
 simp only [zbr_s,-eq_self,qAc,qAf,obA,obS,slL,slR,qAd];kernel_rfl
def zbr_w:CQ:=nestQ (qBk [(0,some 0,some (.node,34))] (qB5 [true,false] zbr_c))
theorem zbr_ok:qAe Tryd.prog 31 zbr_w:=(fun h=>qC6 (prep_nat (liftG_nat h.1)) (qAs h)) zbr_val
def zbq_q:IQ:=(.seq (rg 2 [oP 2 (.mv (vI 0))]) (.seq (.seq (rg 3 [oM 3 t0]) (.block 0 (.seq (rg 4 [oP 5 (.bi .eql t3 (.v (.string ⟨#[111,99,116]⟩))),oM 4 t5]) (.cond t4 (.seq (rg 2 [oP 2 (.mv (vI 1))]) (.cn [2] .ret)) (.seq (rg 6 [oP 7 (.bi .eql t3 (.v (.string ⟨#[82,83,65]⟩))),oM 6 t7]) (.cond t6 (.seq (rg 2 [oP 2 (.mv (vI 2))]) (.cn [2] .ret)) (.seq (rg 8 [oP 9 (.bi .eql t3 (.v (.string ⟨#[69,67]⟩))),oM 8 t9]) (.cond t8 (.seq (rg 2 [oP 2 (.mv (vI 3))]) (.cn [2] .ret)) (.seq (rg 10 [oP 11 (.bi .eql t3 (.v (.string ⟨#[79,75,80]⟩))),oM 10 t11]) (.cond t10 (.seq (rg 2 [oP 2 (.mv (vI 4))]) (.cn [2] .ret)) .skip)))))))))) (.seq (rg 2 [oP 2 (.mv (vI 0))]) (.cn [2] .ret))))
theorem zbq_chk:chk Tryd.prog 39 []=some (zbq_q.erase,[.tmp 2],12):=by kernel_rfl
def zbq_s (s:BA):Option Int :=
 bif decide (s=(⟨#[111,99,116]⟩:BA)) then (
  some (1:Int))
 else (
  bif decide (s=(⟨#[82,83,65]⟩:BA)) then (
   some (2:Int))
  else (
   bif decide (s=(⟨#[69,67]⟩:BA)) then (
    some (3:Int))
   else (
    bif decide (s=(⟨#[79,75,80]⟩:BA)) then (
     some (4:Int))
    else (
     some (0:Int)))))
def zbq_G:Nat→Option CQ:=tblQ []
theorem zbq_Gok:∀f C,zbq_G f=some C→qAe Tryd.prog f C:=fun f C h=>by cases h
def zbq_L:Nat→SubQ:=tblL []
theorem zbq_subs:qAo zbq_L zbq_G 0 4 12 zbq_q:=qAk (show qAr zbq_L zbq_G 0 4 12 [] from tV)
def zbq_da:=(qAb (dVC (dCO dS)) dNil)
def zbq_db:=(dNil:Dec Unit (List SB))
def zbq_c:CS:=mkC zbq_da zbq_db (fun x y=>zbq_s x.1) (fun x y r=>.c (.o (.vI r))) fun x y r=>[]
theorem zbq_val:qAl Tryd.prog 39 zbq_c:=qAn zbq_chk 4 zbq_Gok 0 (fun x=>Nat.le_of_ble_eq_true rfl) (fun y=>rfl) zbq_subs fun x y=>by
 simp only [zbq_s,-eq_self,qAc,qAf,obA,obS,slL,slR,qAd];kernel_rfl
def zbq_w:CQ:=qCu [] zbq_c
theorem zbq_ok:qAe Tryd.prog 39 zbq_w:=qAx zbq_val
def zcc_b0:IQ:=(.loop [0,1,7,8] (.seq (rg 9 [oP 9 (.bi .lss t8 t7)]) (.seq (.cond t9 .skip (.cn [] (.exit 0))) (.seq (.block 1 (.seq (rg 5 [oM 10 t8,oM 5 t10]) (.seq (rg 16 [oM 11 t1,oM 12 t0,oM 13 t5,oP 14 (.iaddr 1 t12 t13),oP 15 (.load none t14),oP 16 (.bi .eql t11 t15)]) (.cond t16 (.seq (rg 4 [oM 17 t5,oM 4 t17]) (.cn [4] .ret)) .skip)))) (rg 8 [oP 18 (.bi .add t8 (vI 1)),oM 8 t18])))))
def zcc_q:IQ:=(.seq (rg 4 [oP 4 (.mv (vI 0))]) (.seq (.seq (rg 8 [oM 6 t0,oP 7 (.len t6),oP 8 (.mv (vI 0))]) (.block 0 (.cn [0,1,7,8] (.sub 0 zcc_b0)))) (.seq (rg 4 [oP 4 (.mv (.v (.int .i64 (-1))))]) (.cn [4] .ret))))
theorem zcc_chk:chk Tryd.prog 47 []=some (zcc_q.erase,[.tmp 4],19):=by kernel_rfl
def qDe (v:BA) (x7_ x8_:Int) (s:List BA):Option (Int ⊕ (Int ⊕ Unit)) :=
 bif decide (x8_<x7_) then (
  gd (0≤x8_∧x8_<s.length) <|
  gd ((Int.toNat x8_)<s.length) <|
  bif decide (v=(s.getD (Int.toNat x8_) (ET.dft .str))) then (
   some (.inr (.inl x8_)))
  else (
   gd (qAj (x8_+(1:Int))) <|
   some (.inl (x8_+(1:Int)))))
 else (
  some (.inr (.inr ())))
def zcc_p0 (v:BA) (x7_ x8_:Int) (s:List BA):Option (Int ⊕ Unit) :=
 qBm (fun x:Int=>qDe v x7_ x s) x8_
def zcc_s (s:(List BA)) (v:BA):Option Int :=
 (zcc_p0 v (s.length:Int) (0:Int) s).bind fun o1=>(Sum.elim (fun (o1_0:Int) =>
  some o1_0) (fun (o1_1:Unit) =>
  some (-1:Int))) o1
def zcc_G:Nat→Option CQ:=tblQ []
theorem zcc_Gok:∀f C,zcc_G f=some C→qAe Tryd.prog f C:=fun f C h=>by cases h
def zcc_d0:=(dQS (qAb (dSO 0 (dO 0)) (qAb (dSO 1 dS) (qAb (dSO 7 dZ) (qAb (dSO 8 dZ) dNil)))) (qAb (qBh .str) dNil))
def zcc_l0:SubQ:=mkL zcc_d0 (fun x=>zcc_p0 x.1.2.1 x.1.2.2.1 x.1.2.2.2.1 x.2.1) fun x r R kn kx kr=>(Sum.elim (fun (r_0:Int)=>kr ⟨[sL 4 (.vI r_0)],[],[.view .str x.2.1]⟩) (fun (r_1:Unit)=>kx 0 ⟨[],[],[.view .str x.2.1]⟩)) r
def zcc_L:Nat→SubQ:=tblL [(0,zcc_l0)]
theorem zcc_sub0:qBu zcc_L zcc_G 1 9 19 0 zcc_b0:=qAw (show zcc_L 0=zcc_l0 from by kernel_rfl) fun x R kn kx kr=>qAv (step:=fun y=>qDe x.1.2.1 x.1.2.2.1 y x.2.1) (enc:=fun (y:Int)=>zcc_d0.e ((x.1.1,x.1.2.1,x.1.2.2.1,y,x.1.2.2.2.2),x.2)) (fun y=>by kernel_rfl) (fun y ki=>by simp only [qDe,-eq_self,qAc,qAf,obA,obS,slL,slR,qAd]; kernel_rfl) x.1.2.2.2.1
theorem zcc_subs:qAo zcc_L zcc_G 1 9 19 zcc_q:=qAk (show qAr zcc_L zcc_G 1 9 19 [(0,zcc_b0)] from ⟨zcc_sub0,tV⟩)
def zcc_da:=(qAb (dVC (dCO (dO 0))) (qAb (dVC (dCO dS)) dNil))
def zcc_db:=(qAb (qBh .str) dNil)
def zcc_c:CS:=mkC zcc_da zcc_db (fun x y=>zcc_s y.1 x.2.1) (fun x y r=>.c (.o (.vI r))) fun x y r=>[.view .str y.1]
theorem zcc_val:qAl Tryd.prog 47 zcc_c:=qAn zcc_chk 9 zcc_Gok 1 (fun x=>Nat.le_of_ble_eq_true rfl) (fun y=>rfl) zcc_subs fun x y=>by
 simp only [zcc_s,-eq_self,qAc,qAf,obA,obS,slL,slR,qAd];kernel_rfl
def zcc_w:CQ:=qBk [(0,none,some (.str,9))] (qCu [false] zcc_c)
theorem zcc_ok:qAe Tryd.prog 47 zcc_w:=qCj zcc_val
def zcb_q:IQ:=(.seq (rg 4 [oP 4 (.mv vF)]) (.seq (rg 4 [oM 5 t0,oM 6 t1,oP 7 (.call 47 [t5,t6]),oP 8 (.bi .geq t7 (vI 0)),oM 4 t8]) (.cn [4] .ret)))
theorem zcb_chk:chk Tryd.prog 33 []=some (zcb_q.erase,[.tmp 4],9):=by kernel_rfl
def zcb_s (s:(List BA)) (v:BA):Option Bool :=
 (zcc_s s v).bind fun r1 =>
 some (decide ((0:Int)≤r1))
def zcb_G:Nat→Option CQ:=tblQ [(47,zcc_w)]
theorem zcb_Gok:∀f C,zcb_G f=some C→qAe Tryd.prog f C:=qAi ⟨zcc_ok,tV⟩
def zcb_L:Nat→SubQ:=tblL []
theorem zcb_subs:qAo zcb_L zcb_G 1 5 9 zcb_q:=qAk (show qAr zcb_L zcb_G 1 5 9 [] from tV)
def zcb_da:=(qAb (dVC (dCO (dO 0))) (qAb (dVC (dCO dS)) dNil))
def zcb_db:=(qAb (qBh .str) dNil)
def zcb_c:CS:=mkC zcb_da zcb_db (fun x y=>zcb_s y.1 x.2.1) (fun x y r=>.c (.o (.vB r))) fun x y r=>[.view .str y.1]
theorem zcb_val:qAl Tryd.prog 33 zcb_c:=qAn zcb_chk 5 zcb_Gok 1 (fun x=>Nat.le_of_ble_eq_true rfl) (fun y=>rfl) zcb_subs fun x y=>by
 simp only [zcb_s,-eq_self,qAc,qAf,obA,obS,slL,slR,qAd];kernel_rfl
def zcb_w:CQ:=qBk [(0,none,some (.str,9))] (qCu [false] zcb_c)
theorem zcb_ok:qAe Tryd.prog 33 zcb_w:=qCj zcb_val
def zbs_b0:IQ:=(.loop [0,7,39,40,41] (.seq (rg 42 [oP 42 (.bi .lss t41 t40)]) (.seq (.cond t42 .skip (.cn [7] (.exit 0))) (.seq (.block 1 (.seq (rg 9 [oP 43 (.iaddr 1 t39 t41),oP 44 (.load none t43),oM 9 t44]) (.seq (.seq (rg 65 (rF 45 t0 0++[oM 49 t9,oP 50 (.iaddr 6 t48 t49),oP 51 (.faddr 0 t50),oP 52 (.load none t51),oP 53 (.bi .neq t52 (vI 5)),oM 54 t53,oE 55 (.mv t7) 54]++rH oE 56 t0 0 54++[oE 60 (.mv t9) 54,oE 61 (.iaddr 6 t59 t60) 54,oE 62 (.faddr 2 t61) 54,oE 63 (.load none t62) 54,oE 64 (.call 33 [t55,t63]) 54,oP 65 (.pick t54 vT t64)])) (.cond t65 (.seq (rg 0 ([oM 66 t0]++rS 67 t66 2 vT)) (.seq (rg 5 [oP 4 (.mv (.v (.slice none 0 0))),oP 5 (.mv vF)]) (.canon [(4,none,.str,9)] [4,5] .ret))) .skip)) (rg 7 ([oM 69 t7]++rF 70 t0 0++[oM 74 t9,oP 75 (.iaddr 6 t73 t74),oP 76 (.faddr 2 t75),oP 77 (.load none t76),oP 78 (.bslice 9 1 1 [.string ⟨#[]⟩] [(0,t77)]),oP 79 (.append 9 1 16 [.string ⟨#[]⟩] t69 t78),oM 7 t79]))))) (rg 41 [oP 80 (.bi .add t41 (vI 1)),oM 41 t80])))))
def zbs_q:IQ:=(.seq (rg 5 [oP 4 (.mv (.v (.slice none 0 0))),oP 5 (.mv vF)]) (.seq (.reg 6 (some [0,1,2,3,4,5,6,7,8,9,10]) (rF 10 t0 0++rF 14 t0 1++[oM 18 t1,oP 19 (.call 9 [t13,t17,t18]),oM 6 t19])) (.seq (.seq (rg 21 [oM 20 t6,oP 21 (.bi .lss t20 (vI 0))]) (.cond t21 (.seq (rg 5 [oP 4 (.mv (.v (.slice none 0 0))),oP 5 (.mv vF)]) (.canon [(4,none,.str,9)] [4,5] .ret)) .skip)) (.seq (.seq (rg 30 (rF 22 t0 0++[oM 26 t6,oP 27 (.iaddr 6 t25 t26),oP 28 (.faddr 0 t27),oP 29 (.load none t28),oP 30 (.bi .neq t29 (vI 6))])) (.cond t30 (.seq (rg 0 ([oM 31 t0]++rS 32 t31 2 vT)) (.seq (rg 5 [oP 4 (.mv (.v (.slice none 0 0))),oP 5 (.mv vF)]) (.canon [(4,none,.str,9)] [4,5] .ret))) .skip)) (.seq (rg 7 [oP 7 (.mv (.v (.slice none 0 0)))]) (.seq (.seq (rg 41 (rF 34 t0 0++[oM 38 t6,oP 39 (.call 10 [t37,t38]),oP 40 (.len t39),oP 41 (.mv (vI 0))])) (.block 0 (.canon [(7,none,.str,9)] [0,7,39,40,41] (.sub 0 zbs_b0)))) (.seq (rg 5 [oM 81 t7,oM 4 t81,oP 5 (.mv vT)]) (.canon [(4,none,.str,9)] [4,5] .ret))))))))
theorem zbs_chk:chk Tryd.prog 40 []=some (zbs_q.erase,[.tmp 4,.tmp 5],82):=by kernel_rfl
def qDb (x40_ x41_:Int) (r__v:List Eng.Node) (out:List BA) (x39_:List Int):Option ((Int × (List BA)) ⊕ ((Bool × Bool × (List BA)) ⊕ ((List BA)))) :=
 bif decide (x41_<x40_) then (
  gd (0≤x41_∧x41_<x39_.length) <|
  gd ((Int.toNat x41_)<x39_.length) <|
  gd (0≤(x39_.getD (Int.toNat x41_) (ET.dft .i64))∧(x39_.getD (Int.toNat x41_) (ET.dft .i64))<r__v.length) <|
  gd ((Int.toNat (x39_.getD (Int.toNat x41_) (ET.dft .i64)))<r__v.length) <|
  gd ((Int.toNat (x39_.getD (Int.toNat x41_) (ET.dft .i64)))<r__v.length) <|
  gd ((!decide (((r__v.getD (Int.toNat (x39_.getD (Int.toNat x41_) (ET.dft .i64))) (ET.dft .node)).kind)=(5:Int)))=false→0≤(x39_.getD (Int.toNat x41_) (ET.dft .i64))∧(x39_.getD (Int.toNat x41_) (ET.dft .i64))<r__v.length) <|
  gd ((!decide (((r__v.getD (Int.toNat (x39_.getD (Int.toNat x41_) (ET.dft .i64))) (ET.dft .node)).kind)=(5:Int)))=false→(Int.toNat (x39_.getD (Int.toNat x41_) (ET.dft .i64)))<r__v.length) <|
  gd ((!decide (((r__v.getD (Int.toNat (x39_.getD (Int.toNat x41_) (ET.dft .i64))) (ET.dft .node)).kind)=(5:Int)))=false→(Int.toNat (x39_.getD (Int.toNat x41_) (ET.dft .i64)))<r__v.length) <|
  bif (!decide (((r__v.getD (Int.toNat (x39_.getD (Int.toNat x41_) (ET.dft .i64))) (ET.dft .node)).kind)=(5:Int))) then (
   some (.inr (.inl (false,true,[]))))
  else (
   (zcb_s out ((r__v.getD (Int.toNat (x39_.getD (Int.toNat x41_) (ET.dft .i64))) (ET.dft .node)).text)).bind fun r13 =>
   bif r13 then (
    some (.inr (.inl (false,true,[]))))
   else (
    gd (0≤(x39_.getD (Int.toNat x41_) (ET.dft .i64))∧(x39_.getD (Int.toNat x41_) (ET.dft .i64))<r__v.length) <|
    gd ((Int.toNat (x39_.getD (Int.toNat x41_) (ET.dft .i64)))<r__v.length) <|
    gd ((Int.toNat (x39_.getD (Int.toNat x41_) (ET.dft .i64)))<r__v.length) <|
    gd (out.length+([(r__v.getD (Int.toNat (x39_.getD (Int.toNat x41_) (ET.dft .i64))) (ET.dft .node)).text]:List BA).length≤9223372036854775807∧(out.length+([(r__v.getD (Int.toNat (x39_.getD (Int.toNat x41_) (ET.dft .i64))) (ET.dft .node)).text]:List BA).length)*16≤140737488355328) <|
    gd (qAj (x41_+(1:Int))) <|
    some (.inl ((x41_+(1:Int)),(out++[(r__v.getD (Int.toNat (x39_.getD (Int.toNat x41_) (ET.dft .i64))) (ET.dft .node)).text]))))))
 else (
  some (.inr (.inr out)))
def zbs_p0 (x40_ x41_:Int) (r__v:List Eng.Node) (out:List BA) (x39_:List Int):Option ((Bool × Bool × (List BA)) ⊕ ((List BA))) :=
 qBm (fun x:(Int × (List BA))=>qDb x40_ x.1 r__v x.2 x39_) (x41_,out)
def zbs_s (r_:keyset_reader) (name:BA):Option (keyset_reader × (List BA) × Bool) :=
 (zaj_s r_.v r_.at_ name).bind fun r11 =>
 bif decide (r11<(0:Int)) then (
  some (r_,[],false))
 else (
  gd (0≤r11∧r11<r_.v.length) <|
  gd ((Int.toNat r11)<r_.v.length) <|
  gd ((Int.toNat r11)<r_.v.length) <|
  bif (!decide (((r_.v.getD (Int.toNat r11) (ET.dft .node)).kind)=(6:Int))) then (
   some ((⟨r_.v,r_.at_,true⟩:keyset_reader),[],false))
  else (
   (zai_s r_.v r11).bind fun r12 =>
   (zbs_p0 (r12.length:Int) (0:Int) r_.v [] r12).bind fun o14=>(Sum.elim (fun (o14_0:Bool × Bool × (List BA)) =>
    some ((⟨r_.v,r_.at_,o14_0.2.1⟩:keyset_reader),o14_0.2.2,o14_0.1)) (fun (o14_1:(List BA)) =>
    some (r_,o14_1,true))) o14))
def zbs_G:Nat→Option CQ:=tblQ [(9,zaj_w),(10,zai_w),(33,zcb_w)]
theorem zbs_Gok:∀f C,zbs_G f=some C→qAe Tryd.prog f C:=qAi ⟨zaj_ok,zai_ok,zcb_ok,tV⟩
def zbs_d0:=(dQS (qAb (dSO 0 (dH 0 0)) (qAb (dSO 7 (dO 2)) (qAb (dSO 39 (dO 3)) (qAb (dSO 40 dZ) (qAb (dSO 41 dZ) dNil))))) (qAb zDJK3 (qAb (qBh .node) (qAb (dRow .str 9) (qAb (dRow .i64 3) dNil)))))
def zbs_l0:SubQ:=mkL zbs_d0 (fun x=>zbs_p0 x.1.2.2.2.1 x.1.2.2.2.2.1 x.2.2.1 x.2.2.2.1 x.2.2.2.2.1) fun x r R kn kx kr=>(Sum.elim (fun (r_0:Bool × Bool × (List BA))=>kr ⟨[sL 4 (.own 2),sL 5 (.vB r_0.1)],[],[.cells 71 [.own 1,.vI x.2.1.2.1,.vB r_0.2.1],.view .node x.2.2.1,.row .str 9 r_0.2.2]⟩) (fun (r_1:(List BA))=>kx 0 ⟨[sL 7 (.own 2)],[],[.cells 71 [.own 1,.vI x.2.1.2.1,.vB x.2.1.2.2.1],.view .node x.2.2.1,.row .str 9 r_1]⟩)) r
def zbs_L:Nat→SubQ:=tblL [(0,zbs_l0)]
theorem zbs_sub0:qBu zbs_L zbs_G 2 42 82 0 zbs_b0:=qAw (show zbs_L 0=zbs_l0 from by kernel_rfl) fun x R kn kx kr=>qAv (step:=fun y=>qDb x.1.2.2.2.1 y.1 x.2.2.1 y.2 x.2.2.2.2.1) (enc:=fun (y:Int × (List BA))=>zbs_d0.e ((x.1.1,x.1.2.1,x.1.2.2.1,x.1.2.2.2.1,y.1,x.1.2.2.2.2.2),(x.2.1,x.2.2.1,y.2,x.2.2.2.2))) (fun y=>by kernel_rfl) (fun y ki=>by simp only [qDb,-eq_self,qAc,qAf,obA,obS,slL,slR,qAd]; kernel_rfl) (x.1.2.2.2.2.1,x.2.2.2.1)
theorem zbs_subs:qAo zbs_L zbs_G 2 42 82 zbs_q:=qAk (show qAr zbs_L zbs_G 2 42 82 [(0,zbs_b0)] from ⟨zbs_sub0,tV⟩)
def zbs_da:=(qAb (dVC (dCO (dH 0 0))) (qAb (dVC (dCO dS)) dNil))
def zbs_db:=(qAb zDJK3 (qAb (qBh .node) dNil))
def zbs_c:CS:=mkC zbs_da zbs_db (fun x y=>zbs_s (⟨y.2.1,y.1.2.1,y.1.2.2.1⟩:keyset_reader) x.2.1) (fun x y r=>.tup [.o (.own 2),.o (.vB r.2.2)]) fun x y r=>[.cells 71 [.own 1,.vI r.1.at_,.vB r.1.bad],.view .node y.2.1,.row .str 9 r.2.1]
theorem zbs_val:qAl Tryd.prog 40 zbs_c:=qAn zbs_chk 42 zbs_Gok 2 (fun x=>Nat.le_of_ble_eq_true rfl) (fun y=>rfl) zbs_subs fun x y=>by
 simp only [zbs_s,-eq_self,qAc,qAf,obA,obS,slL,slR,qAd];kernel_rfl
def zbs_w:CQ:=qBk [(0,some 0,some (.node,34))] (qB5 [true,false] zbs_c)
theorem zbs_ok:qAe Tryd.prog 40 zbs_w:=qAs zbs_val
def zbz_q:IQ:=(.seq (rg 2 [oP 2 (.mv (.v (.slice none 0 0)))]) (.seq (.seq (rg 4 [oM 3 t0,oP 4 (.ext (.snil false) [t3])]) (.cond t4 (.seq (rg 2 [oP 2 (.mv (.v (.slice none 0 0)))]) (.cn [2] .ret)) .skip)) (.seq (rg 2 [oP 5 (.bslice 34 6 0 [.int .i64 0,.string ⟨#[]⟩,.string ⟨#[]⟩,.bool false,.int .i64 0,.int .i64 0] []),oM 6 t0,oP 7 (.append 34 6 64 [.int .i64 0,.string ⟨#[]⟩,.string ⟨#[]⟩,.bool false,.int .i64 0,.int .i64 0] t5 t6),oM 2 t7]) (.canon [(2,none,.node,34)] [2] .ret))))
theorem zbz_chk:chk Tryd.prog 26 []=some (zbz_q.erase,[.tmp 2],8):=by kernel_rfl
def zbz_s (s:(List Eng.Node)):Option ((List Eng.Node)) :=
 gd (0<s.length) <|
 gd (([]:List Eng.Node).length+s.length≤9223372036854775807∧(([]:List Eng.Node).length+s.length)*64≤140737488355328) <|
 some ([]++s)
def zbz_G:Nat→Option CQ:=tblQ []
theorem zbz_Gok:∀f C,zbz_G f=some C→qAe Tryd.prog f C:=fun f C h=>by cases h
def zbz_L:Nat→SubQ:=tblL []
theorem zbz_subs:qAo zbz_L zbz_G 1 3 8 zbz_q:=qAk (show qAr zbz_L zbz_G 1 3 8 [] from tV)
def zbz_da:=(qAb (dVC (dCO (dO 0))) dNil)
def zbz_db:=(qAb (qBh .node) dNil)
def zbz_c:CS:=mkC zbz_da zbz_db (fun x y=>zbz_s y.1) (fun x y r=>.c (.o (.own 1))) fun x y r=>[.view .node y.1,.row .node 34 r]
theorem zbz_val:qAl Tryd.prog 26 zbz_c:=qAn zbz_chk 3 zbz_Gok 1 (fun x=>Nat.le_of_ble_eq_true rfl) (fun y=>rfl) zbz_subs fun x y=>by
 simp only [zbz_s,-eq_self,qAc,qAf,obA,obS,slL,slR,qAd];kernel_rfl
def zbz_w:CQ:=nestQ (qBk [(0,none,some (.node,34))] (qB5 [false] zbz_c))
theorem zbz_ok:qAe Tryd.prog 26 zbz_w:=(fun h=>qC6 (prep_nat (liftG_nat h.1)) (qAs h)) zbz_val
def zbp_q:IQ:=(.seq (rg 5 [oP 4 (.alloc 41 [.slice none 0 0,.int .i64 0,.string ⟨#[]⟩,.bool false,.string ⟨#[]⟩,.bool false,.string ⟨#[]⟩,.bool false,.slice none 0 0,.bool false]),oP 5 (.mv vF)]) (.seq (rg 6 [oM 10 t0,oM 11 t1,oP 12 (.build [.slice none 0 0,.int .i64 0,.bool false] [(0,1,t10),(1,1,t11)]),oP 13 (.box 71 3 t12),oM 6 t13]) (.seq (.seq (rg 19 [oM 14 t0,oM 15 t1,oP 16 (.iaddr 6 t14 t15),oP 17 (.faddr 0 t16),oP 18 (.load none t17),oP 19 (.bi .neq t18 (vI 7))]) (.cond t19 (.seq (rg 5 [oP 20 (.build [.slice none 0 0,.int .i64 0,.string ⟨#[]⟩,.bool false,.string ⟨#[]⟩,.bool false,.string ⟨#[]⟩,.bool false,.slice none 0 0,.bool false] []),oN (.store 10 t4 t20),oP 5 (.mv vF)]) (.canon [(4,some 0,.node,34),(4,some 8,.str,9)] [4,5] .ret)) .skip)) (.seq (rg 8 [oM 22 t6,oP 23 (.call 31 [t22,(.v (.string ⟨#[107,116,121]⟩))]),oM 21 t23,oP 24 (.extract t21 0),oP 25 (.extract t21 1),oM 7 t24,oM 8 t25]) (.seq (.seq (rg 27 [oM 26 t8,oP 27 (.un .not t26)]) (.cond t27 (.seq (rg 5 [oP 28 (.build [.slice none 0 0,.int .i64 0,.string ⟨#[]⟩,.bool false,.string ⟨#[]⟩,.bool false,.string ⟨#[]⟩,.bool false,.slice none 0 0,.bool false] []),oN (.store 10 t4 t28),oP 5 (.mv vF)]) (.canon [(4,some 0,.node,34),(4,some 8,.str,9)] [4,5] .ret)) .skip)) (.seq (rg 0 [oM 29 t7,oP 30 (.call 39 [t29]),oP 31 (.build [.slice none 0 0,.int .i64 0,.string ⟨#[]⟩,.bool false,.string ⟨#[]⟩,.bool false,.string ⟨#[]⟩,.bool false,.slice none 0 0,.bool false] [(1,1,t30)]),oP 9 (.alloc 41 [.slice none 0 0,.int .i64 0,.string ⟨#[]⟩,.bool false,.string ⟨#[]⟩,.bool false,.string ⟨#[]⟩,.bool false,.slice none 0 0,.bool false]),oN (.store 10 t9 t31)]) (.seq (rg 0 [oM 33 t6,oP 34 (.call 31 [t33,(.v (.string ⟨#[107,105,100]⟩))]),oM 32 t34,oP 35 (.extract t32 0),oP 36 (.extract t32 1),oP 37 (.faddr 2 t9),oN (.store 1 t37 t35),oP 38 (.faddr 3 t9),oN (.store 1 t38 t36)]) (.seq (rg 0 [oM 40 t6,oP 41 (.call 31 [t40,(.v (.string ⟨#[117,115,101]⟩))]),oM 39 t41,oP 42 (.extract t39 0),oP 43 (.extract t39 1),oP 44 (.faddr 4 t9),oN (.store 1 t44 t42),oP 45 (.faddr 5 t9),oN (.store 1 t45 t43)]) (.seq (rg 0 [oM 47 t6,oP 48 (.call 31 [t47,(.v (.string ⟨#[97,108,103]⟩))]),oM 46 t48,oP 49 (.extract t46 0),oP 50 (.extract t46 1),oP 51 (.faddr 6 t9),oN (.store 1 t51 t49),oP 52 (.faddr 7 t9),oN (.store 1 t52 t50)]) (.seq (rg 0 [oM 54 t6,oP 55 (.call 40 [t54,(.v (.string ⟨#[107,101,121,95,111,112,115]⟩))]),oM 53 t55,oP 56 (.extract t53 0),oP 57 (.extract t53 1),oP 58 (.faddr 8 t9),oN (.store 1 t58 t56),oP 59 (.faddr 9 t9),oN (.store 1 t59 t57)]) (.seq (.seq (rg 63 (rF 60 t6 2)) (.cond t63 (.seq (rg 5 [oP 64 (.build [.slice none 0 0,.int .i64 0,.string ⟨#[]⟩,.bool false,.string ⟨#[]⟩,.bool false,.string ⟨#[]⟩,.bool false,.slice none 0 0,.bool false] []),oN (.store 10 t4 t64),oP 5 (.mv vF)]) (.canon [(4,some 0,.node,34),(4,some 8,.str,9)] [4,5] .ret)) .skip)) (.seq (rg 0 [oM 65 t0,oM 66 t1,oM 67 t0,oM 68 t1,oP 69 (.call 14 [t67,t68]),oP 70 (.sub (some 6) t65 (some t66) (some t69)),oP 71 (.call 26 [t70]),oP 72 (.faddr 0 t9),oN (.store 1 t72 t71)]) (.seq (rg 0 [oP 73 (.faddr 0 t9),oP 74 (.load none t73),oP 75 (.iaddr 6 t74 (vI 0)),oP 76 (.faddr 1 t75),oN (.store 1 t76 (.v (.string ⟨#[]⟩)))]) (.seq (rg 5 [oP 77 (.load (some 10) t9),oN (.store 10 t4 t77),oP 5 (.mv vT)]) (.canon [(4,some 0,.node,34),(4,some 8,.str,9)] [4,5] .ret)))))))))))))))
theorem zbp_chk:chk Tryd.prog 23 []=some (zbp_q.erase,[.cell 4 (some 10),.tmp 5],78):=by kernel_rfl
def zbp_s (v:(List Eng.Node)) (at_:Int):Option (qHj × Bool) :=
 gd (0≤at_∧at_<v.length) <|
 gd ((Int.toNat at_)<v.length) <|
 gd ((Int.toNat at_)<v.length) <|
 bif (!decide (((v.getD (Int.toNat at_) (ET.dft .node)).kind)=(7:Int))) then (
  some ((⟨[],(0:Int),(⟨#[]⟩:BA),false,(⟨#[]⟩:BA),false,(⟨#[]⟩:BA),false,[],false⟩:qHj),false))
 else (
  (zbr_s (⟨v,at_,false⟩:keyset_reader) (⟨#[107,116,121]⟩:BA)).bind fun r1 =>
  bif (!r1.2.2) then (
   some ((⟨[],(0:Int),(⟨#[]⟩:BA),false,(⟨#[]⟩:BA),false,(⟨#[]⟩:BA),false,[],false⟩:qHj),false))
  else (
   (zbq_s r1.2.1).bind fun r2 =>
   (zbr_s (⟨v,r1.1.at_,r1.1.bad⟩:keyset_reader) (⟨#[107,105,100]⟩:BA)).bind fun r3 =>
   (zbr_s (⟨v,r3.1.at_,r3.1.bad⟩:keyset_reader) (⟨#[117,115,101]⟩:BA)).bind fun r4 =>
   (zbr_s (⟨v,r4.1.at_,r4.1.bad⟩:keyset_reader) (⟨#[97,108,103]⟩:BA)).bind fun r5 =>
   (zbs_s (⟨v,r5.1.at_,r5.1.bad⟩:keyset_reader) (⟨#[107,101,121,95,111,112,115]⟩:BA)).bind fun r6 =>
   bif r6.1.bad then (
    some ((⟨[],(0:Int),(⟨#[]⟩:BA),false,(⟨#[]⟩:BA),false,(⟨#[]⟩:BA),false,[],false⟩:qHj),false))
   else (
    (zah_s v at_).bind fun r7 =>
    gd (0≤at_∧at_≤r7∧r7≤v.length) <|
    (zbz_s ((v.take (Int.toNat r7)).drop (Int.toNat at_))).bind fun r8 =>
    gd (0≤(0:Int)∧(0:Int)<r8.length) <|
    gd ((Int.toNat (0:Int))<r8.length) <|
    gd ((Int.toNat (0:Int))<r8.length) <|
    some ((⟨(r8.set (Int.toNat (0:Int)) (⟨(r8.getD (Int.toNat (0:Int)) (ET.dft .node)).kind,(⟨#[]⟩:BA),(r8.getD (Int.toNat (0:Int)) (ET.dft .node)).text,(r8.getD (Int.toNat (0:Int)) (ET.dft .node)).whole,(r8.getD (Int.toNat (0:Int)) (ET.dft .node)).int,(r8.getD (Int.toNat (0:Int)) (ET.dft .node)).kids⟩:Eng.Node)),r2,r3.2.1,r3.2.2,r4.2.1,r4.2.2,r5.2.1,r5.2.2,r6.2.1,r6.2.2⟩:qHj),true))))
def zbp_G:Nat→Option CQ:=tblQ [(31,zbr_w),(39,zbq_w),(40,zbs_w),(14,zah_w),(26,zbz_w)]
theorem zbp_Gok:∀f C,zbp_G f=some C→qAe Tryd.prog f C:=qAi ⟨zbr_ok,zbq_ok,zbs_ok,zah_ok,zbz_ok,tV⟩
def zbp_L:Nat→SubQ:=tblL []
theorem zbp_subs:qAo zbp_L zbp_G 1 10 78 zbp_q:=qAk (show qAr zbp_L zbp_G 1 10 78 [] from tV)
def zbp_da:=(qAb (dVC (dCO (dO 0))) (qAb (dVC (dCO dZ)) dNil))
def zbp_db:=(qAb (qBh .node) dNil)
def zbp_c:CS:=mkC zbp_da zbp_db (fun x y=>zbp_s y.1 x.2.1) (fun x y r=>.tup [.agg [.own 1,.vI r.1.kty,.vS r.1.kid,.vB r.1.hasKid,.vS r.1.use,.vB r.1.hasUse,.vS r.1.alg,.vB r.1.hasAlg,.own 2,.vB r.1.hasOps],.o (.vB r.2)]) fun x y r=>[.view .node y.1,.row .node 34 r.1.value,.row .str 9 r.1.ops]
theorem zbp_val:qAl Tryd.prog 23 zbp_c:=qAn zbp_chk 10 zbp_Gok 1 (fun x=>Nat.le_of_ble_eq_true rfl) (fun y=>rfl) zbp_subs fun x y=>by
 simp only [zbp_s,-eq_self,qAc,qAf,obA,obS,slL,slR,qAd];kernel_rfl
def zbp_w:CQ:=qBk [(0,none,some (.node,34))] (qB5 [false] zbp_c)
theorem zbp_ok:qAe Tryd.prog 23 zbp_w:=qAs zbp_val
def zbn_b0:IQ:=(.loop [4,8,39,40,41] (.seq (rg 42 [oP 42 (.bi .lss t41 t40)]) (.seq (.cond t42 .skip (.cn [8] (.exit 0))) (.seq (.block 1 (.seq (rg 10 [oP 43 (.iaddr 1 t39 t41),oP 44 (.load none t43),oM 10 t44]) (.seq (rg 12 [oM 46 t4,oM 47 t10,oP 48 (.call 23 [t46,t47]),oM 45 t48,oP 49 (.extract t45 0),oP 50 (.extract t45 1),oP 11 (.alloc 41 [.slice none 0 0,.int .i64 0,.string ⟨#[]⟩,.bool false,.string ⟨#[]⟩,.bool false,.string ⟨#[]⟩,.bool false,.slice none 0 0,.bool false]),oN (.store 10 t11 t49),oM 12 t50]) (.seq (.seq (rg 52 [oM 51 t12,oP 52 (.un .not t51)]) (.cond t52 (.seq (rg 3 [oP 2 (.mv (.v (.slice none 0 0))),oP 3 (.mv (vI 100))]) (.canon [(2,none,(.bag [.rw .node,.int .i64,.str,.bool,.str,.bool,.str,.bool,.rw .str,.bool]),41)] [2,3] .ret)) .skip)) (rg 8 [oM 53 t8,oP 54 (.load (some 10) t11),oP 55 (.bslice 41 10 1 [.slice none 0 0,.int .i64 0,.string ⟨#[]⟩,.bool false,.string ⟨#[]⟩,.bool false,.string ⟨#[]⟩,.bool false,.slice none 0 0,.bool false] [(0,t54)]),oP 56 (.append 41 10 136 [.slice none 0 0,.int .i64 0,.string ⟨#[]⟩,.bool false,.string ⟨#[]⟩,.bool false,.string ⟨#[]⟩,.bool false,.slice none 0 0,.bool false] t53 t55),oM 8 t56]))))) (rg 41 [oP 57 (.bi .add t41 (vI 1)),oM 41 t57])))))
def zbn_q:IQ:=(.seq (rg 3 [oP 2 (.mv (.v (.slice none 0 0))),oP 3 (.mv (vI 0))]) (.seq (.seq (rg 15 [oM 13 t0,oP 14 (.lenS t13),oP 15 (.bi .gtr t14 (vI 262144))]) (.cond t15 (.seq (rg 3 [oP 2 (.mv (.v (.slice none 0 0))),oP 3 (.mv (vI 10))]) (.canon [(2,none,(.bag [.rw .node,.int .i64,.str,.bool,.str,.bool,.str,.bool,.rw .str,.bool]),41)] [2,3] .ret)) .skip)) (.seq (rg 6 [oM 17 t0,oP 18 (.call 8 [t17]),oM 16 t18,oP 19 (.extract t16 0),oP 20 (.extract t16 1),oP 21 (.extract t16 2),oM 4 t19,oM 5 t20,oM 6 t21]) (.seq (.seq (rg 23 [oM 22 t5,oP 23 (.bi .neq t22 (vI 0))]) (.cond t23 (.seq (rg 3 [oM 24 t5,oP 2 (.mv (.v (.slice none 0 0))),oM 3 t24]) (.canon [(2,none,(.bag [.rw .node,.int .i64,.str,.bool,.str,.bool,.str,.bool,.rw .str,.bool]),41)] [2,3] .ret)) .skip)) (.seq (rg 7 [oM 25 t4,oP 26 (.call 9 [t25,(vI 0),(.v (.string ⟨#[107,101,121,115]⟩))]),oM 7 t26]) (.seq (.seq (rg 36 [oM 27 t7,oP 28 (.bi .lss t27 (vI 0)),oM 29 t28,oE 30 (.mv t4) 29,oE 31 (.mv t7) 29,oE 32 (.iaddr 6 t30 t31) 29,oE 33 (.faddr 0 t32) 29,oE 34 (.load none t33) 29,oE 35 (.bi .neq t34 (vI 6)) 29,oP 36 (.pick t29 vT t35)]) (.cond t36 (.seq (rg 3 [oP 2 (.mv (.v (.slice none 0 0))),oP 3 (.mv (vI 100))]) (.canon [(2,none,(.bag [.rw .node,.int .i64,.str,.bool,.str,.bool,.str,.bool,.rw .str,.bool]),41)] [2,3] .ret)) .skip)) (.seq (rg 8 [oP 8 (.mv (.v (.slice none 0 0)))]) (.seq (.seq (rg 41 [oM 37 t4,oM 38 t7,oP 39 (.call 10 [t37,t38]),oP 40 (.len t39),oP 41 (.mv (vI 0))]) (.block 0 (.canon [(8,none,(.bag [.rw .node,.int .i64,.str,.bool,.str,.bool,.str,.bool,.rw .str,.bool]),41)] [4,8,39,40,41] (.sub 0 zbn_b0)))) (.seq (rg 3 [oM 58 t8,oM 2 t58,oP 3 (.mv (vI 0))]) (.canon [(2,none,(.bag [.rw .node,.int .i64,.str,.bool,.str,.bool,.str,.bool,.rw .str,.bool]),41)] [2,3] .ret))))))))))
theorem zbn_chk:chk Tryd.prog 7 []=some (zbn_q.erase,[.tmp 2,.tmp 3],59):=by kernel_rfl
def qD5 (x40_ x41_:Int) (v:List Eng.Node) (out:List ((List Eng.Node) × Int × BA × Bool × BA × Bool × BA × Bool × (List BA) × Bool × Unit)) (x39_:List Int):Option ((Int × (List ((List Eng.Node) × Int × BA × Bool × BA × Bool × BA × Bool × (List BA) × Bool × Unit))) ⊕ ((Int × (List ((List Eng.Node) × Int × BA × Bool × BA × Bool × BA × Bool × (List BA) × Bool × Unit))) ⊕ ((List ((List Eng.Node) × Int × BA × Bool × BA × Bool × BA × Bool × (List BA) × Bool × Unit))))) :=
 bif decide (x41_<x40_) then (
  gd (0≤x41_∧x41_<x39_.length) <|
  gd ((Int.toNat x41_)<x39_.length) <|
  (zbp_s v (x39_.getD (Int.toNat x41_) (ET.dft .i64))).bind fun r16 =>
  bif (!r16.2) then (
   some (.inr (.inl ((100:Int),[]))))
  else (
   gd (out.length+([(r16.1.value,r16.1.kty,r16.1.kid,r16.1.hasKid,r16.1.use,r16.1.hasUse,r16.1.alg,r16.1.hasAlg,r16.1.ops,r16.1.hasOps,())]:List ((List Eng.Node) × Int × BA × Bool × BA × Bool × BA × Bool × (List BA) × Bool × Unit)).length≤9223372036854775807∧(out.length+([(r16.1.value,r16.1.kty,r16.1.kid,r16.1.hasKid,r16.1.use,r16.1.hasUse,r16.1.alg,r16.1.hasAlg,r16.1.ops,r16.1.hasOps,())]:List ((List Eng.Node) × Int × BA × Bool × BA × Bool × BA × Bool × (List BA) × Bool × Unit)).length)*136≤140737488355328) <|
   gd (qAj (x41_+(1:Int))) <|
   some (.inl ((x41_+(1:Int)),(out++[(r16.1.value,r16.1.kty,r16.1.kid,r16.1.hasKid,r16.1.use,r16.1.hasUse,r16.1.alg,r16.1.hasAlg,r16.1.ops,r16.1.hasOps,())])))))
 else (
  some (.inr (.inr out)))
def zbn_p0 (x40_ x41_:Int) (v:List Eng.Node) (out:List ((List Eng.Node) × Int × BA × Bool × BA × Bool × BA × Bool × (List BA) × Bool × Unit)) (x39_:List Int):Option ((Int × (List ((List Eng.Node) × Int × BA × Bool × BA × Bool × BA × Bool × (List BA) × Bool × Unit))) ⊕ ((List ((List Eng.Node) × Int × BA × Bool × BA × Bool × BA × Bool × (List BA) × Bool × Unit)))) :=
 qBm (fun x:(Int × (List ((List Eng.Node) × Int × BA × Bool × BA × Bool × BA × Bool × (List BA) × Bool × Unit)))=>qD5 x40_ x.1 v x.2 x39_) (x41_,out)
def zbn_s (doc:BA):Option ((List ((List Eng.Node) × Int × BA × Bool × BA × Bool × BA × Bool × (List BA) × Bool × Unit)) × Int) :=
 bif decide ((262144:Int)<(doc.size:Int)) then (
  some ([],(10:Int)))
 else (
  (zak_s doc).bind fun r13 =>
  bif (!decide (r13.2.1=(0:Int))) then (
   some ([],r13.2.1))
  else (
   (zaj_s r13.1 (0:Int) (⟨#[107,101,121,115]⟩:BA)).bind fun r14 =>
   gd ((decide (r14<(0:Int)))=false→0≤r14∧r14<r13.1.length) <|
   gd ((decide (r14<(0:Int)))=false→(Int.toNat r14)<r13.1.length) <|
   gd ((decide (r14<(0:Int)))=false→(Int.toNat r14)<r13.1.length) <|
   bif ((decide (r14<(0:Int))) || (!decide (((r13.1.getD (Int.toNat r14) (ET.dft .node)).kind)=(6:Int)))) then (
    some ([],(100:Int)))
   else (
    (zai_s r13.1 r14).bind fun r15 =>
    (zbn_p0 (r15.length:Int) (0:Int) r13.1 [] r15).bind fun o17=>(Sum.elim (fun (o17_0:Int × (List ((List Eng.Node) × Int × BA × Bool × BA × Bool × BA × Bool × (List BA) × Bool × Unit))) =>
     some (o17_0.2,o17_0.1)) (fun (o17_1:(List ((List Eng.Node) × Int × BA × Bool × BA × Bool × BA × Bool × (List BA) × Bool × Unit))) =>
     some (o17_1,(0:Int)))) o17)))
def zbn_G:Nat→Option CQ:=tblQ [(8,zak_w),(9,zaj_w),(10,zai_w),(23,zbp_w)]
theorem zbn_Gok:∀f C,zbn_G f=some C→qAe Tryd.prog f C:=qAi ⟨zak_ok,zaj_ok,zai_ok,zbp_ok,tV⟩
def zDJK1:=(dBag [.rw .node,.int .i64,.str,.bool,.str,.bool,.str,.bool,.rw .str,.bool] 41)
def zbn_d0:=(dQS (qAb (dSO 4 (dO 0)) (qAb (dSO 8 (dBsl 1)) (qAb (dSO 39 (dO 2)) (qAb (dSO 40 dZ) (qAb (dSO 41 dZ) dNil))))) (qAb (dRow .node 34) (qAb zDJK1 (qAb (dRow .i64 3) dNil))))
def zbn_l0:SubQ:=mkL zbn_d0 (fun x=>zbn_p0 x.1.2.2.2.1 x.1.2.2.2.2.1 x.2.1 x.2.2.1 x.2.2.2.1) fun x r R kn kx kr=>(Sum.elim (fun (r_0:Int × (List ((List Eng.Node) × Int × BA × Bool × BA × Bool × BA × Bool × (List BA) × Bool × Unit)))=>kr ⟨[sL 2 (.bsl 0),sL 3 (.vI r_0.1)],[],[.bag [.rw .node,.int .i64,.str,.bool,.str,.bool,.str,.bool,.rw .str,.bool] 41 r_0.2]⟩) (fun (r_1:(List ((List Eng.Node) × Int × BA × Bool × BA × Bool × BA × Bool × (List BA) × Bool × Unit)))=>kx 0 ⟨[sL 8 (.bsl 0)],[],[.bag [.rw .node,.int .i64,.str,.bool,.str,.bool,.str,.bool,.rw .str,.bool] 41 r_1]⟩)) r
def zbn_L:Nat→SubQ:=tblL [(0,zbn_l0)]
theorem zbn_sub0:qBu zbn_L zbn_G 0 42 59 0 zbn_b0:=qAw (show zbn_L 0=zbn_l0 from by kernel_rfl) fun x R kn kx kr=>qAv (step:=fun y=>qD5 x.1.2.2.2.1 y.1 x.2.1 y.2 x.2.2.2.1) (enc:=fun (y:Int × (List ((List Eng.Node) × Int × BA × Bool × BA × Bool × BA × Bool × (List BA) × Bool × Unit)))=>zbn_d0.e ((x.1.1,x.1.2.1,x.1.2.2.1,x.1.2.2.2.1,y.1,x.1.2.2.2.2.2),(x.2.1,y.2,x.2.2.2))) (fun y=>by kernel_rfl) (fun y ki=>by simp only [qD5,-eq_self,qAc,qAf,obA,obS,slL,slR,qAd]; kernel_rfl) (x.1.2.2.2.2.1,x.2.2.1)
theorem zbn_subs:qAo zbn_L zbn_G 0 42 59 zbn_q:=qAk (show qAr zbn_L zbn_G 0 42 59 [(0,zbn_b0)] from ⟨zbn_sub0,tV⟩)
def zbn_da:=(qAb (dVC (dCO dS)) dNil)
def zbn_db:=(dNil:Dec Unit (List SB))
def zbn_c:CS:=mkC zbn_da zbn_db (fun x y=>zbn_s x.1) (fun x y r=>.tup [.o (.bsl 0),.o (.vI r.2)]) fun x y r=>[.bag [.rw .node,.int .i64,.str,.bool,.str,.bool,.str,.bool,.rw .str,.bool] 41 r.1]
theorem zbn_val:qAl Tryd.prog 7 zbn_c:=qAn zbn_chk 42 zbn_Gok 0 (fun x=>Nat.le_of_ble_eq_true rfl) (fun y=>rfl) zbn_subs fun x y=>by
 simp only [zbn_s,-eq_self,qAc,qAf,obA,obS,slL,slR,qAd];kernel_rfl
def zbn_w:CQ:=qB5 [] zbn_c
theorem zbn_ok:qAe Tryd.prog 7 zbn_w:=liftQ_valid zbn_val
def zca_q:IQ:=(.seq (rg 2 [oP 2 (.mv (.v (.slice none 0 0)))]) (.seq (.seq (rg 4 [oM 3 t0,oP 4 (.ext (.snil false) [t3])]) (.cond t4 (.seq (rg 2 [oP 2 (.mv (.v (.slice none 0 0)))]) (.cn [2] .ret)) .skip)) (.seq (rg 2 [oP 5 (.bslice 9 1 0 [.string ⟨#[]⟩] []),oM 6 t0,oP 7 (.append 9 1 16 [.string ⟨#[]⟩] t5 t6),oM 2 t7]) (.canon [(2,none,.str,9)] [2] .ret))))
theorem zca_chk:chk Tryd.prog 27 []=some (zca_q.erase,[.tmp 2],8):=by kernel_rfl
def zca_s0 (s:(List BA)):Option ((List BA)) :=
 gd (0<s.length) <|
 gd (([]:List BA).length+s.length≤9223372036854775807∧(([]:List BA).length+s.length)*16≤140737488355328) <|
 some ([]++s)
def zca_G:Nat→Option CQ:=tblQ []
theorem zca_Gok:∀f C,zca_G f=some C→qAe Tryd.prog f C:=fun f C h=>by cases h
def zca_L:Nat→SubQ:=tblL []
theorem zca_subs:qAo zca_L zca_G 1 3 8 zca_q:=qAk (show qAr zca_L zca_G 1 3 8 [] from tV)
def zca_da:=(qAb (dVC (dCO (dO 0))) dNil)
def zca_db:=(qAb (qBh .str) dNil)
def zca_c0:CS:=mkC zca_da zca_db (fun x y=>zca_s0 y.1) (fun x y r=>.c (.o (.own 1))) fun x y r=>[.view .str y.1,.row .str 9 r]
theorem zca_val0:qAl Tryd.prog 27 zca_c0:=qAn zca_chk 3 zca_Gok 1 (fun x=>Nat.le_of_ble_eq_true rfl) (fun y=>rfl) zca_subs fun x y=>by
 simp only [zca_s0,-eq_self,qAc,qAf,obA,obS,slL,slR,qAd];kernel_rfl
def zca_s (s:(List BA)):Option ((List BA)) :=
 gd (([]:(List BA)).length+s.length≤9223372036854775807∧(([]:(List BA)).length+s.length)*16≤140737488355328) (some ([]++s))
def zca_c:CS:=mkC zca_da zca_db (fun x y=>zca_s y.1) (fun x y r=>.c (.o (.own 1))) fun x y r=>[.view .str y.1,.row .str 9 r]
theorem zca_val:qAl Tryd.prog 27 zca_c:=clone_valid (B:=16) zca_val0 (fun _ _ _=>rfl) (fun _ _ _=>rfl) clone_str
def zca_w:CQ:=nestQ (qBk [(0,none,some (.str,9))] (qB5 [false] zca_c))
theorem zca_ok:qAe Tryd.prog 27 zca_w:=(fun h=>qC6 (prep_nat (liftG_nat h.1)) (qAs h)) zca_val
def zbm_b0:IQ:=(.loop [0,1,4,6,10,11,12] (.seq (rg 13 [oP 13 (.bi .lss t12 t11)]) (.seq (.cond t13 .skip (.cn [0,4,6] (.exit 0))) (.seq (.block 1 (.seq (rg 0 [oM 14 t12,oP 15 (.iaddr 10 t10 t12),oP 16 (.load (some 10) t15),oP 8 (.alloc 41 [.slice none 0 0,.int .i64 0,.string ⟨#[]⟩,.bool false,.string ⟨#[]⟩,.bool false,.string ⟨#[]⟩,.bool false,.slice none 0 0,.bool false]),oM 7 t14,oN (.store 10 t8 t16)]) (.seq (.seq (rg 25 [oP 17 (.faddr 3 t8),oP 18 (.load none t17),oP 19 (.un .not t18),oM 20 t19,oE 21 (.faddr 2 t8) 20,oE 22 (.load none t21) 20,oE 23 (.mv t1) 20,oE 24 (.bi .neq t22 t23) 20,oP 25 (.pick t20 vT t24)]) (.cond t25 (.exit 1) .skip)) (.seq (.seq (rg 27 [oM 26 t6,oP 27 (.bi .geq t26 (vI 0))]) (.cond t27 (.seq (rg 5 [oP 28 (.build [.slice none 0 0,.int .i64 0,.string ⟨#[]⟩,.bool false,.string ⟨#[]⟩,.bool false,.string ⟨#[]⟩,.bool false,.slice none 0 0,.bool false] []),oN (.store 10 t4 t28),oP 5 (.mv (vI 104))]) (.canon [(4,some 0,.node,34),(4,some 8,.str,9)] [4,5] .ret)) .skip)) (rg 6 [oM 29 t7,oM 6 t29]))))) (rg 12 [oP 30 (.bi .add t12 (vI 1)),oM 12 t30])))))
def zbm_q:IQ:=(.seq (rg 5 [oP 4 (.alloc 41 [.slice none 0 0,.int .i64 0,.string ⟨#[]⟩,.bool false,.string ⟨#[]⟩,.bool false,.string ⟨#[]⟩,.bool false,.slice none 0 0,.bool false]),oP 5 (.mv (vI 0))]) (.seq (rg 6 [oP 6 (.mv (.v (.int .i64 (-1))))]) (.seq (.seq (rg 12 [oM 10 t0,oP 11 (.len t10),oP 12 (.mv (vI 0))]) (.block 0 (.cn [0,1,4,6,10,11,12] (.sub 0 zbm_b0)))) (.seq (.seq (rg 32 [oM 31 t6,oP 32 (.bi .lss t31 (vI 0))]) (.cond t32 (.seq (rg 5 [oP 33 (.build [.slice none 0 0,.int .i64 0,.string ⟨#[]⟩,.bool false,.string ⟨#[]⟩,.bool false,.string ⟨#[]⟩,.bool false,.slice none 0 0,.bool false] []),oN (.store 10 t4 t33),oP 5 (.mv (vI 103))]) (.canon [(4,some 0,.node,34),(4,some 8,.str,9)] [4,5] .ret)) .skip)) (.seq (rg 0 [oM 34 t0,oM 35 t6,oP 36 (.iaddr 10 t34 t35),oP 37 (.load (some 10) t36),oP 9 (.alloc 41 [.slice none 0 0,.int .i64 0,.string ⟨#[]⟩,.bool false,.string ⟨#[]⟩,.bool false,.string ⟨#[]⟩,.bool false,.slice none 0 0,.bool false]),oN (.store 10 t9 t37)]) (.seq (.reg 0 (some [0,1,3,4,2,6,5,7,8,9]) [oP 38 (.faddr 0 t9),oP 39 (.load none t38),oP 41 (.faddr 8 t9),oP 42 (.load none t41),oP 40 (.call 26 [t39]),oP 44 (.faddr 0 t9),oP 43 (.call 27 [t42]),oN (.store 1 t44 t40),oP 45 (.faddr 8 t9),oN (.store 1 t45 t43)]) (.seq (rg 5 [oP 46 (.load (some 10) t9),oN (.store 10 t4 t46),oP 5 (.mv (vI 0))]) (.canon [(4,some 0,.node,34),(4,some 8,.str,9)] [4,5] .ret))))))))
theorem zbm_chk:chk Tryd.prog 12 []=some (zbm_q.erase,[.cell 4 (some 10),.tmp 5],47):=by kernel_rfl
def qDd (kid:BA) (found x11_ x12_:Int) (l:List ((List Eng.Node) × Int × BA × Bool × BA × Bool × BA × Bool × (List BA) × Bool × Unit)):Option ((Int × Int) ⊕ ((Int × Int × BA × Bool × BA × Bool × BA × Bool × Bool × (List Eng.Node) × (List BA)) ⊕ Int)) :=
 bif decide (x12_<x11_) then (
  gd (0≤x12_∧x12_<l.length) <|
  gd ((Int.toNat x12_)<l.length) <|
  bif ((!((l.getD (Int.toNat x12_) (NT.dft [.rw .node,.int .i64,.str,.bool,.str,.bool,.str,.bool,.rw .str,.bool])).2.2.2.1)) || (!decide (((l.getD (Int.toNat x12_) (NT.dft [.rw .node,.int .i64,.str,.bool,.str,.bool,.str,.bool,.rw .str,.bool])).2.2.1)=kid))) then (
   gd (qAj (x12_+(1:Int))) <|
   some (.inl (found,(x12_+(1:Int)))))
  else (
   bif decide ((0:Int)≤found) then (
    some (.inr (.inl ((104:Int),(0:Int),(⟨#[]⟩:BA),false,(⟨#[]⟩:BA),false,(⟨#[]⟩:BA),false,false,[],[]))))
   else (
    gd (qAj (x12_+(1:Int))) <|
    some (.inl (x12_,(x12_+(1:Int)))))))
 else (
  some (.inr (.inr found)))
def zbm_p0 (kid:BA) (found x11_ x12_:Int) (l:List ((List Eng.Node) × Int × BA × Bool × BA × Bool × BA × Bool × (List BA) × Bool × Unit)):Option ((Int × Int × BA × Bool × BA × Bool × BA × Bool × Bool × (List Eng.Node) × (List BA)) ⊕ Int) :=
 qBm (fun x:(Int × Int)=>qDd kid x.1 x11_ x.2 l) (found,x12_)
def zbm_s (l:(List ((List Eng.Node) × Int × BA × Bool × BA × Bool × BA × Bool × (List BA) × Bool × Unit))) (kid:BA):Option (qHj × Int) :=
 (zbm_p0 kid (-1:Int) (l.length:Int) (0:Int) l).bind fun o1=>(Sum.elim (fun (o1_0:Int × Int × BA × Bool × BA × Bool × BA × Bool × Bool × (List Eng.Node) × (List BA)) =>
  some ((⟨o1_0.2.2.2.2.2.2.2.2.2.1,o1_0.2.1,o1_0.2.2.1,o1_0.2.2.2.1,o1_0.2.2.2.2.1,o1_0.2.2.2.2.2.1,o1_0.2.2.2.2.2.2.1,o1_0.2.2.2.2.2.2.2.1,o1_0.2.2.2.2.2.2.2.2.2.2,o1_0.2.2.2.2.2.2.2.2.1⟩:qHj),o1_0.1)) (fun (o1_1:Int) =>
  bif decide (o1_1<(0:Int)) then (
   some ((⟨[],(0:Int),(⟨#[]⟩:BA),false,(⟨#[]⟩:BA),false,(⟨#[]⟩:BA),false,[],false⟩:qHj),(103:Int)))
  else (
   gd (0≤o1_1∧o1_1<l.length) <|
   gd ((Int.toNat o1_1)<l.length) <|
   gd ((Int.toNat o1_1)<l.length) <|
   gd ((Int.toNat o1_1)<l.length) <|
   (zbz_s ((l.getD (Int.toNat o1_1) (NT.dft [.rw .node,.int .i64,.str,.bool,.str,.bool,.str,.bool,.rw .str,.bool])).1)).bind fun r2 =>
   gd (([.bag [.rw .node,.int .i64,.str,.bool,.str,.bool,.str,.bool,.rw .str,.bool] 41 l,.cells 41 [.val (.slice none 0 0),.vI (0:Int),.vS (⟨#[]⟩:BA),.vB false,.vS (⟨#[]⟩:BA),.vB false,.vS (⟨#[]⟩:BA),.vB false,.val (.slice none 0 0),.vB false],.cells 41 [.prj 0 (Int.toNat o1_1) 0,.vI ((l.getD (Int.toNat o1_1) (NT.dft [.rw .node,.int .i64,.str,.bool,.str,.bool,.str,.bool,.rw .str,.bool])).2.1),.vS ((l.getD (Int.toNat o1_1) (NT.dft [.rw .node,.int .i64,.str,.bool,.str,.bool,.str,.bool,.rw .str,.bool])).2.2.1),.vB ((l.getD (Int.toNat o1_1) (NT.dft [.rw .node,.int .i64,.str,.bool,.str,.bool,.str,.bool,.rw .str,.bool])).2.2.2.1),.vS ((l.getD (Int.toNat o1_1) (NT.dft [.rw .node,.int .i64,.str,.bool,.str,.bool,.str,.bool,.rw .str,.bool])).2.2.2.2.1),.vB ((l.getD (Int.toNat o1_1) (NT.dft [.rw .node,.int .i64,.str,.bool,.str,.bool,.str,.bool,.rw .str,.bool])).2.2.2.2.2.1),.vS ((l.getD (Int.toNat o1_1) (NT.dft [.rw .node,.int .i64,.str,.bool,.str,.bool,.str,.bool,.rw .str,.bool])).2.2.2.2.2.2.1),.vB ((l.getD (Int.toNat o1_1) (NT.dft [.rw .node,.int .i64,.str,.bool,.str,.bool,.str,.bool,.rw .str,.bool])).2.2.2.2.2.2.2.1),.prj 0 (Int.toNat o1_1) 1,.vB ((l.getD (Int.toNat o1_1) (NT.dft [.rw .node,.int .i64,.str,.bool,.str,.bool,.str,.bool,.rw .str,.bool])).2.2.2.2.2.2.2.2.2.1)]]:List SB)=[.bag [.rw .node,.int .i64,.str,.bool,.str,.bool,.str,.bool,.rw .str,.bool] 41 l,.cells 41 [.val (.slice none 0 0),.vI (0:Int),.vS (⟨#[]⟩:BA),.vB false,.vS (⟨#[]⟩:BA),.vB false,.vS (⟨#[]⟩:BA),.vB false,.val (.slice none 0 0),.vB false],.cells 41 [.prj 0 (Int.toNat o1_1) 0,.vI ((l.getD (Int.toNat o1_1) (NT.dft [.rw .node,.int .i64,.str,.bool,.str,.bool,.str,.bool,.rw .str,.bool])).2.1),.vS ((l.getD (Int.toNat o1_1) (NT.dft [.rw .node,.int .i64,.str,.bool,.str,.bool,.str,.bool,.rw .str,.bool])).2.2.1),.vB ((l.getD (Int.toNat o1_1) (NT.dft [.rw .node,.int .i64,.str,.bool,.str,.bool,.str,.bool,.rw .str,.bool])).2.2.2.1),.vS ((l.getD (Int.toNat o1_1) (NT.dft [.rw .node,.int .i64,.str,.bool,.str,.bool,.str,.bool,.rw .str,.bool])).2.2.2.2.1),.vB ((l.getD (Int.toNat o1_1) (NT.dft [.rw .node,.int .i64,.str,.bool,.str,.bool,.str,.bool,.rw .str,.bool])).2.2.2.2.2.1),.vS ((l.getD (Int.toNat o1_1) (NT.dft [.rw .node,.int .i64,.str,.bool,.str,.bool,.str,.bool,.rw .str,.bool])).2.2.2.2.2.2.1),.vB ((l.getD (Int.toNat o1_1) (NT.dft [.rw .node,.int .i64,.str,.bool,.str,.bool,.str,.bool,.rw .str,.bool])).2.2.2.2.2.2.2.1),.prj 0 (Int.toNat o1_1) 1,.vB ((l.getD (Int.toNat o1_1) (NT.dft [.rw .node,.int .i64,.str,.bool,.str,.bool,.str,.bool,.rw .str,.bool])).2.2.2.2.2.2.2.2.2.1)]]) <|
   gd ((Int.toNat o1_1)<l.length) <|
   gd ((Int.toNat o1_1)<l.length) <|
   (zca_s ((l.getD (Int.toNat o1_1) (NT.dft [.rw .node,.int .i64,.str,.bool,.str,.bool,.str,.bool,.rw .str,.bool])).2.2.2.2.2.2.2.2.1)).bind fun r3 =>
   gd (([.bag [.rw .node,.int .i64,.str,.bool,.str,.bool,.str,.bool,.rw .str,.bool] 41 l,.cells 41 [.val (.slice none 0 0),.vI (0:Int),.vS (⟨#[]⟩:BA),.vB false,.vS (⟨#[]⟩:BA),.vB false,.vS (⟨#[]⟩:BA),.vB false,.val (.slice none 0 0),.vB false],.cells 41 [.prj 0 (Int.toNat o1_1) 0,.vI ((l.getD (Int.toNat o1_1) (NT.dft [.rw .node,.int .i64,.str,.bool,.str,.bool,.str,.bool,.rw .str,.bool])).2.1),.vS ((l.getD (Int.toNat o1_1) (NT.dft [.rw .node,.int .i64,.str,.bool,.str,.bool,.str,.bool,.rw .str,.bool])).2.2.1),.vB ((l.getD (Int.toNat o1_1) (NT.dft [.rw .node,.int .i64,.str,.bool,.str,.bool,.str,.bool,.rw .str,.bool])).2.2.2.1),.vS ((l.getD (Int.toNat o1_1) (NT.dft [.rw .node,.int .i64,.str,.bool,.str,.bool,.str,.bool,.rw .str,.bool])).2.2.2.2.1),.vB ((l.getD (Int.toNat o1_1) (NT.dft [.rw .node,.int .i64,.str,.bool,.str,.bool,.str,.bool,.rw .str,.bool])).2.2.2.2.2.1),.vS ((l.getD (Int.toNat o1_1) (NT.dft [.rw .node,.int .i64,.str,.bool,.str,.bool,.str,.bool,.rw .str,.bool])).2.2.2.2.2.2.1),.vB ((l.getD (Int.toNat o1_1) (NT.dft [.rw .node,.int .i64,.str,.bool,.str,.bool,.str,.bool,.rw .str,.bool])).2.2.2.2.2.2.2.1),.prj 0 (Int.toNat o1_1) 1,.vB ((l.getD (Int.toNat o1_1) (NT.dft [.rw .node,.int .i64,.str,.bool,.str,.bool,.str,.bool,.rw .str,.bool])).2.2.2.2.2.2.2.2.2.1)],.dead,.row .node 34 r2]:List SB)=[.bag [.rw .node,.int .i64,.str,.bool,.str,.bool,.str,.bool,.rw .str,.bool] 41 l,.cells 41 [.val (.slice none 0 0),.vI (0:Int),.vS (⟨#[]⟩:BA),.vB false,.vS (⟨#[]⟩:BA),.vB false,.vS (⟨#[]⟩:BA),.vB false,.val (.slice none 0 0),.vB false],.cells 41 [.prj 0 (Int.toNat o1_1) 0,.vI ((l.getD (Int.toNat o1_1) (NT.dft [.rw .node,.int .i64,.str,.bool,.str,.bool,.str,.bool,.rw .str,.bool])).2.1),.vS ((l.getD (Int.toNat o1_1) (NT.dft [.rw .node,.int .i64,.str,.bool,.str,.bool,.str,.bool,.rw .str,.bool])).2.2.1),.vB ((l.getD (Int.toNat o1_1) (NT.dft [.rw .node,.int .i64,.str,.bool,.str,.bool,.str,.bool,.rw .str,.bool])).2.2.2.1),.vS ((l.getD (Int.toNat o1_1) (NT.dft [.rw .node,.int .i64,.str,.bool,.str,.bool,.str,.bool,.rw .str,.bool])).2.2.2.2.1),.vB ((l.getD (Int.toNat o1_1) (NT.dft [.rw .node,.int .i64,.str,.bool,.str,.bool,.str,.bool,.rw .str,.bool])).2.2.2.2.2.1),.vS ((l.getD (Int.toNat o1_1) (NT.dft [.rw .node,.int .i64,.str,.bool,.str,.bool,.str,.bool,.rw .str,.bool])).2.2.2.2.2.2.1),.vB ((l.getD (Int.toNat o1_1) (NT.dft [.rw .node,.int .i64,.str,.bool,.str,.bool,.str,.bool,.rw .str,.bool])).2.2.2.2.2.2.2.1),.prj 0 (Int.toNat o1_1) 1,.vB ((l.getD (Int.toNat o1_1) (NT.dft [.rw .node,.int .i64,.str,.bool,.str,.bool,.str,.bool,.rw .str,.bool])).2.2.2.2.2.2.2.2.2.1)],.dead,.row .node 34 r2]) <|
   some ((⟨r2,(l.getD (Int.toNat o1_1) (NT.dft [.rw .node,.int .i64,.str,.bool,.str,.bool,.str,.bool,.rw .str,.bool])).2.1,(l.getD (Int.toNat o1_1) (NT.dft [.rw .node,.int .i64,.str,.bool,.str,.bool,.str,.bool,.rw .str,.bool])).2.2.1,(l.getD (Int.toNat o1_1) (NT.dft [.rw .node,.int .i64,.str,.bool,.str,.bool,.str,.bool,.rw .str,.bool])).2.2.2.1,(l.getD (Int.toNat o1_1) (NT.dft [.rw .node,.int .i64,.str,.bool,.str,.bool,.str,.bool,.rw .str,.bool])).2.2.2.2.1,(l.getD (Int.toNat o1_1) (NT.dft [.rw .node,.int .i64,.str,.bool,.str,.bool,.str,.bool,.rw .str,.bool])).2.2.2.2.2.1,(l.getD (Int.toNat o1_1) (NT.dft [.rw .node,.int .i64,.str,.bool,.str,.bool,.str,.bool,.rw .str,.bool])).2.2.2.2.2.2.1,(l.getD (Int.toNat o1_1) (NT.dft [.rw .node,.int .i64,.str,.bool,.str,.bool,.str,.bool,.rw .str,.bool])).2.2.2.2.2.2.2.1,r3,(l.getD (Int.toNat o1_1) (NT.dft [.rw .node,.int .i64,.str,.bool,.str,.bool,.str,.bool,.rw .str,.bool])).2.2.2.2.2.2.2.2.2.1⟩:qHj),(0:Int))))) o1
def zbm_G:Nat→Option CQ:=tblQ [(26,zbz_w),(27,zca_w)]
theorem zbm_Gok:∀f C,zbm_G f=some C→qAe Tryd.prog f C:=qAi ⟨zbz_ok,zca_ok,tV⟩
def zbm_d0:=(dQS (qAb (dSO 0 (dBsl 0)) (qAb (dSO 1 dS) (qAb (dSO 4 (dH 1 0)) (qAb (dSO 6 dZ) (qAb (dSO 10 (dBsl 0)) (qAb (dSO 11 dZ) (qAb (dSO 12 dZ) dNil))))))) (qAb zDJK1 (qAb (dCells 41 (qAb dNS (qAb dZ (qAb dS (qAb dB (qAb dS (qAb dB (qAb dS (qAb dB (qAb dNS (qAb dB dNil))))))))))) dNil)))
def zbm_l0:SubQ:=mkL zbm_d0 (fun x=>zbm_p0 x.1.2.1 x.1.2.2.2.1 x.1.2.2.2.2.2.1 x.1.2.2.2.2.2.2.1 x.2.1) fun x r R kn kx kr=>(Sum.elim (fun (r_0:Int × Int × BA × Bool × BA × Bool × BA × Bool × Bool × (List Eng.Node) × (List BA))=>kr ⟨[sL 4 (.hd 1 0),sL 5 (.vI r_0.1)],[],[.bag [.rw .node,.int .i64,.str,.bool,.str,.bool,.str,.bool,.rw .str,.bool] 41 x.2.1,.cells 41 [.own 2,.vI r_0.2.1,.vS r_0.2.2.1,.vB r_0.2.2.2.1,.vS r_0.2.2.2.2.1,.vB r_0.2.2.2.2.2.1,.vS r_0.2.2.2.2.2.2.1,.vB r_0.2.2.2.2.2.2.2.1,.own 3,.vB r_0.2.2.2.2.2.2.2.2.1],.row .node 34 r_0.2.2.2.2.2.2.2.2.2.1,.row .str 9 r_0.2.2.2.2.2.2.2.2.2.2]⟩) (fun (r_1:Int)=>kx 0 ⟨[sL 0 (.bsl 0),sL 4 (.hd 1 0),sL 6 (.vI r_1)],[],[.bag [.rw .node,.int .i64,.str,.bool,.str,.bool,.str,.bool,.rw .str,.bool] 41 x.2.1,.cells 41 [.val (.slice none 0 0),.vI x.2.2.1.2.1,.vS x.2.2.1.2.2.1,.vB x.2.2.1.2.2.2.1,.vS x.2.2.1.2.2.2.2.1,.vB x.2.2.1.2.2.2.2.2.1,.vS x.2.2.1.2.2.2.2.2.2.1,.vB x.2.2.1.2.2.2.2.2.2.2.1,.val (.slice none 0 0),.vB x.2.2.1.2.2.2.2.2.2.2.2.2.1]]⟩)) r
def zbm_L:Nat→SubQ:=tblL [(0,zbm_l0)]
theorem zbm_sub0:qBu zbm_L zbm_G 1 13 47 0 zbm_b0:=qAw (show zbm_L 0=zbm_l0 from by kernel_rfl) fun x R kn kx kr=>qAv (step:=fun y=>qDd x.1.2.1 y.1 x.1.2.2.2.2.2.1 y.2 x.2.1) (enc:=fun (y:Int × Int)=>zbm_d0.e ((x.1.1,x.1.2.1,x.1.2.2.1,y.1,x.1.2.2.2.2.1,x.1.2.2.2.2.2.1,y.2,x.1.2.2.2.2.2.2.2),x.2)) (fun y=>by kernel_rfl) (fun y ki=>by simp only [qDd,-eq_self,qAc,qAf,obA,obS,slL,slR,qAd]; kernel_rfl) (x.1.2.2.2.1,x.1.2.2.2.2.2.2.1)
theorem zbm_subs:qAo zbm_L zbm_G 1 13 47 zbm_q:=qAk (show qAr zbm_L zbm_G 1 13 47 [(0,zbm_b0)] from ⟨zbm_sub0,tV⟩)
def zbm_da:=(qAb (dVC (dCO (dBsl 0))) (qAb (dVC (dCO dS)) dNil))
def zbm_db:=(qAb zDJK1 dNil)
def zbm_c:CS:=mkC zbm_da zbm_db (fun x y=>zbm_s y.1 x.2.1) (fun x y r=>.tup [.agg [.own 1,.vI r.1.kty,.vS r.1.kid,.vB r.1.hasKid,.vS r.1.use,.vB r.1.hasUse,.vS r.1.alg,.vB r.1.hasAlg,.own 2,.vB r.1.hasOps],.o (.vI r.2)]) fun x y r=>[.bag [.rw .node,.int .i64,.str,.bool,.str,.bool,.str,.bool,.rw .str,.bool] 41 y.1,.row .node 34 r.1.value,.row .str 9 r.1.ops]
theorem zbm_val:qAl Tryd.prog 12 zbm_c:=qAn zbm_chk 13 zbm_Gok 1 (fun x=>Nat.le_of_ble_eq_true rfl) (fun y=>rfl) zbm_subs fun x y=>by
 simp only [zbm_s,-eq_self,qAc,qAf,obA,obS,slL,slR,qAd];kernel_rfl
def zbm_w:CQ:=qBk [(0,none,some ((.bag [.rw .node,.int .i64,.str,.bool,.str,.bool,.str,.bool,.rw .str,.bool]),41))] (qB5 [true] zbm_c)
theorem zbm_ok:qAe Tryd.prog 12 zbm_w:=qAs zbm_val
def zbo_b1:IQ:=(.join [] [] (.cond t9 (.seq (rg 3 [oP 2 (.mv (vI 2)),oP 3 (.mv (.v (.string ⟨#[]⟩)))]) (.cn [2,3] .ret)) (.seq (rg 16 [oP 17 (.bi .eql t4 (vI 10)),oM 16 t17]) (.cond t16 (.seq (rg 3 [oP 2 (.mv (vI 3)),oP 3 (.mv (.v (.string ⟨#[80,45,50,53,54]⟩)))]) (.cn [2,3] .ret)) (.seq (rg 18 [oP 19 (.bi .eql t4 (vI 11)),oM 18 t19]) (.cond t18 (.seq (rg 3 [oP 2 (.mv (vI 3)),oP 3 (.mv (.v (.string ⟨#[80,45,51,56,52]⟩)))]) (.cn [2,3] .ret)) (.seq (rg 20 [oP 21 (.bi .eql t4 (vI 12)),oM 20 t21]) (.cond t20 (.seq (rg 3 [oP 2 (.mv (vI 4)),oP 3 (.mv (.v (.string ⟨#[69,100,50,53,53,49,57]⟩)))]) (.cn [2,3] .ret)) .skip))))))))
def zbo_b0:IQ:=(.join [] [] (.cond t5 (.seq (rg 3 [oP 2 (.mv (vI 1)),oP 3 (.mv (.v (.string ⟨#[]⟩)))]) (.cn [2,3] .ret)) (.seq (.seq (rg 9 [oP 10 (.bi .eql t4 (vI 4)),oM 9 t10]) (.cond t9 .skip (.seq (rg 9 [oP 11 (.bi .eql t4 (vI 5)),oM 9 t11]) (.cond t9 .skip (.seq (rg 9 [oP 12 (.bi .eql t4 (vI 6)),oM 9 t12]) (.cond t9 .skip (.seq (rg 9 [oP 13 (.bi .eql t4 (vI 7)),oM 9 t13]) (.cond t9 .skip (.seq (rg 9 [oP 14 (.bi .eql t4 (vI 8)),oM 9 t14]) (.cond t9 .skip (rg 9 [oP 15 (.bi .eql t4 (vI 9)),oM 9 t15]))))))))))) (.cn [4,9] (.sub 1 zbo_b1)))))
def zbo_q:IQ:=(.seq (rg 3 [oP 2 (.mv (vI 0)),oP 3 (.mv (.v (.string ⟨#[]⟩)))]) (.seq (.seq (rg 4 [oM 4 t0]) (.block 0 (.seq (.seq (rg 5 [oP 6 (.bi .eql t4 (vI 1)),oM 5 t6]) (.cond t5 .skip (.seq (rg 5 [oP 7 (.bi .eql t4 (vI 2)),oM 5 t7]) (.cond t5 .skip (rg 5 [oP 8 (.bi .eql t4 (vI 3)),oM 5 t8]))))) (.cn [4,5] (.sub 0 zbo_b0))))) (.seq (rg 3 [oP 2 (.mv (vI 0)),oP 3 (.mv (.v (.string ⟨#[]⟩)))]) (.cn [2,3] .ret))))
theorem zbo_chk:chk Tryd.prog 30 []=some (zbo_q.erase,[.tmp 2,.tmp 3],22):=by kernel_rfl
def zbo_p1 (x4_:Int) (x9_:Bool):Option ((Int × BA) ⊕ Unit) :=
 bif x9_ then (
  some (.inl ((2:Int),(⟨#[]⟩:BA))))
 else (
  bif decide (x4_=(10:Int)) then (
   some (.inl ((3:Int),(⟨#[80,45,50,53,54]⟩:BA))))
  else (
   bif decide (x4_=(11:Int)) then (
    some (.inl ((3:Int),(⟨#[80,45,51,56,52]⟩:BA))))
   else (
    bif decide (x4_=(12:Int)) then (
     some (.inl ((4:Int),(⟨#[69,100,50,53,53,49,57]⟩:BA))))
    else (
     some (.inr ())))))
def zbo_p0 (x4_:Int) (x5_:Bool):Option ((Int × BA) ⊕ Unit) :=
 bif x5_ then (
  some (.inl ((1:Int),(⟨#[]⟩:BA))))
 else (
  bif decide (x4_=(4:Int)) then (
   (zbo_p1 x4_ (decide (x4_=(4:Int)))).bind fun o1=>(Sum.elim (fun (o1_0:Int × BA) =>
    some (.inl (o1_0.1,o1_0.2))) (fun (o1_1:Unit) =>
    some (.inr ()))) o1)
  else (
   bif decide (x4_=(5:Int)) then (
    (zbo_p1 x4_ (decide (x4_=(5:Int)))).bind fun o2=>(Sum.elim (fun (o2_0:Int × BA) =>
     some (.inl (o2_0.1,o2_0.2))) (fun (o2_1:Unit) =>
     some (.inr ()))) o2)
   else (
    bif decide (x4_=(6:Int)) then (
     (zbo_p1 x4_ (decide (x4_=(6:Int)))).bind fun o3=>(Sum.elim (fun (o3_0:Int × BA) =>
      some (.inl (o3_0.1,o3_0.2))) (fun (o3_1:Unit) =>
      some (.inr ()))) o3)
    else (
     bif decide (x4_=(7:Int)) then (
      (zbo_p1 x4_ (decide (x4_=(7:Int)))).bind fun o4=>(Sum.elim (fun (o4_0:Int × BA) =>
       some (.inl (o4_0.1,o4_0.2))) (fun (o4_1:Unit) =>
       some (.inr ()))) o4)
     else (
      bif decide (x4_=(8:Int)) then (
       (zbo_p1 x4_ (decide (x4_=(8:Int)))).bind fun o5=>(Sum.elim (fun (o5_0:Int × BA) =>
        some (.inl (o5_0.1,o5_0.2))) (fun (o5_1:Unit) =>
        some (.inr ()))) o5)
      else (
       (zbo_p1 x4_ (decide (x4_=(9:Int)))).bind fun o6=>(Sum.elim (fun (o6_0:Int × BA) =>
        some (.inl (o6_0.1,o6_0.2))) (fun (o6_1:Unit) =>
        some (.inr ()))) o6))))))
def zbo_s (a:Int):Option (Int × BA) :=
 bif decide (a=(1:Int)) then (
  (zbo_p0 a (decide (a=(1:Int)))).bind fun o7=>(Sum.elim (fun (o7_0:Int × BA) =>
   some (o7_0.1,o7_0.2)) (fun (o7_1:Unit) =>
   some ((0:Int),(⟨#[]⟩:BA)))) o7)
 else (
  bif decide (a=(2:Int)) then (
   (zbo_p0 a (decide (a=(2:Int)))).bind fun o8=>(Sum.elim (fun (o8_0:Int × BA) =>
    some (o8_0.1,o8_0.2)) (fun (o8_1:Unit) =>
    some ((0:Int),(⟨#[]⟩:BA)))) o8)
  else (
   (zbo_p0 a (decide (a=(3:Int)))).bind fun o9=>(Sum.elim (fun (o9_0:Int × BA) =>
    some (o9_0.1,o9_0.2)) (fun (o9_1:Unit) =>
    some ((0:Int),(⟨#[]⟩:BA)))) o9))
def zbo_G:Nat→Option CQ:=tblQ []
theorem zbo_Gok:∀f C,zbo_G f=some C→qAe Tryd.prog f C:=fun f C h=>by cases h
def zbo_d1:=(dQS (qAb (dSO 4 dZ) (qAb (dSO 9 dB) dNil)) dNil)
def zbo_l1:SubQ:=mkL zbo_d1 (fun x=>zbo_p1 x.1.1 x.1.2.1) fun x r R kn kx kr=>(Sum.elim (fun (r_0:Int × BA)=>kr ⟨[sL 2 (.vI r_0.1),sL 3 (.vS r_0.2)],[],[]⟩) (fun (r_1:Unit)=>kn ⟨[],[],[]⟩)) r
def zbo_d0:=(dQS (qAb (dSO 4 dZ) (qAb (dSO 5 dB) dNil)) dNil)
def zbo_l0:SubQ:=mkL zbo_d0 (fun x=>zbo_p0 x.1.1 x.1.2.1) fun x r R kn kx kr=>(Sum.elim (fun (r_0:Int × BA)=>kr ⟨[sL 2 (.vI r_0.1),sL 3 (.vS r_0.2)],[],[]⟩) (fun (r_1:Unit)=>kn ⟨[],[],[]⟩)) r
def zbo_L:Nat→SubQ:=tblL [(1,zbo_l1),(0,zbo_l0)]
theorem zbo_sub1:qBu zbo_L zbo_G 0 5 22 1 zbo_b1:=qAw (show zbo_L 1=zbo_l1 from by kernel_rfl) fun x R kn kx kr=>by
 simp only [zbo_p1,-eq_self,qAc,qAf,obA,obS,slL,slR,qAd];kernel_rfl
theorem zbo_sub0:qBu zbo_L zbo_G 0 5 22 0 zbo_b0:=qAw (show zbo_L 0=zbo_l0 from by kernel_rfl) fun x R kn kx kr=>by
 simp only [zbo_p0,-eq_self,qAc,qAf,obA,obS,slL,slR,qAd];kernel_rfl
theorem zbo_subs:qAo zbo_L zbo_G 0 5 22 zbo_q:=qAk (show qAr zbo_L zbo_G 0 5 22 [(0,zbo_b0),(1,zbo_b1)] from ⟨zbo_sub0,zbo_sub1,tV⟩)
def zbo_da:=(qAb (dVC (dCO dZ)) dNil)
def zbo_db:=(dNil:Dec Unit (List SB))
def zbo_c:CS:=mkC zbo_da zbo_db (fun x y=>zbo_s x.1) (fun x y r=>.tup [.o (.vI r.1),.o (.vS r.2)]) fun x y r=>[]
theorem zbo_val:qAl Tryd.prog 30 zbo_c:=qAn zbo_chk 5 zbo_Gok 0 (fun x=>Nat.le_of_ble_eq_true rfl) (fun y=>rfl) zbo_subs fun x y=>by
 simp only [zbo_s,-eq_self,qAc,qAf,obA,obS,slL,slR,qAd];kernel_rfl
def zbo_w:CQ:=qCu [] zbo_c
theorem zbo_ok:qAe Tryd.prog 30 zbo_w:=qAx zbo_val
def zbl_b0:IQ:=(.seq (.seq (.reg 68 (some [0,1,2,3,4,5,6,7,8,9,10,11,12,13,14,15,16,17,18,19,20,21,22,23,24,25,26,27]) [oP 41 (.faddr 5 t2),oP 42 (.load none t41),oM 43 t42,oF 44 (.faddr 4 t2) 43,oF 45 (.load none t44) 43,oF 46 (.bi .neq t45 (.v (.string ⟨#[115,105,103]⟩))) 43,oP 47 (.pick t43 t46 vF),oM 48 t47,oE 49 (.faddr 7 t2) 48,oE 50 (.load none t49) 48,oE 51 (.mv t50) 48,oF 52 (.faddr 6 t2) 51,oF 53 (.load none t52) 51,oF 54 (.mv t1) 51,oF 55 (.call 32 [t54]) 51,oF 56 (.bi .neq t53 t55) 51,oE 57 (.pick t51 t56 vF) 48,oP 58 (.pick t48 vT t57),oM 59 t58,oE 60 (.faddr 9 t2) 59,oE 61 (.load none t60) 59,oE 62 (.mv t61) 59,oF 63 (.faddr 8 t2) 62,oF 64 (.load none t63) 62,oF 65 (.call 33 [t64,(.v (.string ⟨#[118,101,114,105,102,121]⟩))]) 62,oF 66 (.un .not t65) 62,oE 67 (.pick t62 t66 vF) 59,oP 68 (.pick t59 vT t67)]) (.cond t68 (.seq (rg 4 [oP 4 (.mv (vI 105))]) (.cn [4] .ret)) .skip)) (.seq (rg 4 [oP 4 (.mv (vI 0))]) (.cn [4] .ret)))
def zbl_q:IQ:=(.seq (rg 4 [oP 2 (.box 41 10 t0),oP 4 (.mv (vI 0))]) (.seq (rg 6 [oM 11 t1,oP 12 (.call 30 [t11]),oM 10 t12,oP 13 (.extract t10 0),oP 14 (.extract t10 1),oM 5 t13,oM 6 t14]) (.seq (.seq (rg 22 [oM 15 t5,oP 16 (.bi .eql t15 (vI 0)),oM 17 t16,oE 18 (.faddr 1 t2) 17,oE 19 (.load none t18) 17,oE 20 (.mv t5) 17,oE 21 (.bi .neq t19 t20) 17,oP 22 (.pick t17 vT t21)]) (.cond t22 (.seq (rg 4 [oP 4 (.mv (vI 105))]) (.cn [4] .ret)) .skip)) (.seq (.seq (rg 24 [oM 23 t6,oP 24 (.bi .neq t23 (.v (.string ⟨#[]⟩)))]) (.cond t24 (.seq (rg 7 [oP 25 (.faddr 0 t2),oP 26 (.load none t25),oP 27 (.build [.slice none 0 0,.int .i64 0,.bool false] [(0,1,t26)]),oP 28 (.box 71 3 t27),oM 7 t28]) (.seq (rg 9 [oM 30 t7,oP 31 (.call 31 [t30,(.v (.string ⟨#[99,114,118]⟩))]),oM 29 t31,oP 32 (.extract t29 0),oP 33 (.extract t29 1),oM 8 t32,oM 9 t33]) (.seq (rg 40 [oM 34 t9,oP 35 (.un .not t34),oM 36 t35,oE 37 (.mv t8) 36,oE 38 (.mv t6) 36,oE 39 (.bi .neq t37 t38) 36,oP 40 (.pick t36 vT t39)]) (.cond t40 (.seq (rg 4 [oP 4 (.mv (vI 105))]) (.cn [4] .ret)) .skip)))) .skip)) (.cn [1,2] (.sub 0 zbl_b0))))))
theorem zbl_chk:chk Tryd.prog 15 []=some (zbl_q.erase,[.tmp 4],69):=by kernel_rfl
def zbl_p0 (a:Int) (qHt:List BA) (qHu:BA) (qHq:Bool) (qHv:BA) (qHr qHs:Bool):Option Int :=
 (qE3 a).bind fun r3 =>
 (zcb_s qHt (⟨#[118,101,114,105,102,121]⟩:BA)).bind fun r4 =>
 bif (((qHq && (!decide (qHu=(⟨#[115,105,103]⟩:BA)))) || (qHr && (!decide (qHv=r3)))) || (qHs && (!r4))) then (
  some (105:Int))
 else (
  some (0:Int))
def zbl_s (x_:qHj) (a:Int):Option Int :=
 (zbo_s a).bind fun r1 =>
 bif ((decide (r1.1=(0:Int))) || (!decide (x_.kty=r1.1))) then (
  some (105:Int))
 else (
  bif (!decide (r1.2=(⟨#[]⟩:BA))) then (
   (zbr_s (⟨x_.value,(0:Int),false⟩:keyset_reader) (⟨#[99,114,118]⟩:BA)).bind fun r2 =>
   bif ((!r2.2.2) || (!decide (r2.2.1=r1.2))) then (
    some (105:Int))
   else (
    (zbl_p0 a x_.ops x_.use x_.hasUse x_.alg x_.hasAlg x_.hasOps).bind fun o5 =>
    some o5))
  else (
   (zbl_p0 a x_.ops x_.use x_.hasUse x_.alg x_.hasAlg x_.hasOps).bind fun o6 =>
   some o6))
def zbl_G:Nat→Option CQ:=tblQ [(30,zbo_w),(31,zbr_w),(32,keyset_Name_w),(33,zcb_w)]
theorem zbl_Gok:∀f C,zbl_G f=some C→qAe Tryd.prog f C:=qAi ⟨zbo_ok,zbr_ok,keyset_Name_ok,zcb_ok,tV⟩
def zDJK2:=(qAb (dO 0) (qAb dZ (qAb dS (qAb dB (qAb dS (qAb dB (qAb dS (qAb dB (qAb (dO 1) (qAb dB dNil))))))))))
def zbl_d0:=(dQS (qAb (dSO 1 dZ) (qAb (dSO 2 (dH 2 0)) dNil)) (qAb (qBh .node) (qAb (qBh .str) (qAb (dCells 41 zDJK2) dNil))))
def zbl_l0:SubQ:=mkL zbl_d0 (fun x=>zbl_p0 x.1.1 x.2.2.1 x.2.2.2.1.2.2.2.2.1 x.2.2.2.1.2.2.2.2.2.1 x.2.2.2.1.2.2.2.2.2.2.1 x.2.2.2.1.2.2.2.2.2.2.2.1 x.2.2.2.1.2.2.2.2.2.2.2.2.2.1) fun x r R kn kx kr=>kr ⟨[sL 4 (.vI r)],[],[.view .node x.2.1,.view .str x.2.2.1]⟩
def zbl_L:Nat→SubQ:=tblL [(0,zbl_l0)]
theorem zbl_sub0:qBu zbl_L zbl_G 2 10 69 0 zbl_b0:=qAw (show zbl_L 0=zbl_l0 from by kernel_rfl) fun x R kn kx kr=>by
 simp only [zbl_p0,-eq_self,qAc,qAf,obA,obS,slL,slR,qAd];kernel_rfl
theorem zbl_subs:qAo zbl_L zbl_G 2 10 69 zbl_q:=qAk (show qAr zbl_L zbl_G 2 10 69 [(0,zbl_b0)] from ⟨zbl_sub0,tV⟩)
def zbl_da:=(qAb (dVC (dCA zDJK2)) (qAb (dVC (dCO dZ)) dNil))
def zbl_db:=(qAb (qBh .node) (qAb (qBh .str) dNil))
def zbl_c:CS:=mkC zbl_da zbl_db (fun x y=>zbl_s (⟨y.1,x.1.2.1,x.1.2.2.1,x.1.2.2.2.1,x.1.2.2.2.2.1,x.1.2.2.2.2.2.1,x.1.2.2.2.2.2.2.1,x.1.2.2.2.2.2.2.2.1,y.2.1,x.1.2.2.2.2.2.2.2.2.2.1⟩:qHj) x.2.1) (fun x y r=>.c (.o (.vI r))) fun x y r=>[.view .node y.1,.view .str y.2.1]
theorem zbl_val:qAl Tryd.prog 15 zbl_c:=qAn zbl_chk 10 zbl_Gok 2 (fun x=>Nat.le_of_ble_eq_true rfl) (fun y=>rfl) zbl_subs fun x y=>by
 simp only [zbl_s,-eq_self,qAc,qAf,obA,obS,slL,slR,qAd];kernel_rfl
def zbl_w:CQ:=nestQ (qBk [(0,some 0,some (.node,34)),(0,some 8,some (.str,9))] (qCu [false,false] zbl_c))
theorem zbl_ok:qAe Tryd.prog 15 zbl_w:=(fun h=>qC6 (prep_nat (liftH_nat h.1)) (qCj h)) zbl_val
def zbu_q:IQ:=(.seq (rg 0 [oP 0 (.mv vF)]) (.seq (rg 2 [oP 10 (.call 7 [(.v (.string ⟨#[123,34,107,101,121,115,34,58,91,123,34,107,116,121,34,58,34,111,99,116,34,44,34,107,105,100,34,58,34,97,34,125,44,123,34,107,116,121,34,58,34,69,67,34,44,34,99,114,118,34,58,34,80,45,50,53,54,34,44,34,107,105,100,34,58,34,98,34,44,34,117,115,101,34,58,34,115,105,103,34,125,44,123,34,107,116,121,34,58,34,82,83,65,34,125,93,125]⟩))]),oM 9 t10,oP 11 (.extract t9 0),oP 12 (.extract t9 1),oM 1 t11,oM 2 t12]) (.seq (rg 4 [oM 14 t1,oP 15 (.call 12 [t14,(.v (.string ⟨#[98]⟩))]),oM 13 t15,oP 16 (.extract t13 0),oP 17 (.extract t13 1),oP 3 (.alloc 41 [.slice none 0 0,.int .i64 0,.string ⟨#[]⟩,.bool false,.string ⟨#[]⟩,.bool false,.string ⟨#[]⟩,.bool false,.slice none 0 0,.bool false]),oN (.store 10 t3 t16),oM 4 t17]) (.seq (rg 6 [oM 19 t1,oP 20 (.call 12 [t19,(.v (.string ⟨#[99]⟩))]),oM 18 t20,oP 21 (.extract t18 0),oP 22 (.extract t18 1),oP 5 (.alloc 41 [.slice none 0 0,.int .i64 0,.string ⟨#[]⟩,.bool false,.string ⟨#[]⟩,.bool false,.string ⟨#[]⟩,.bool false,.slice none 0 0,.bool false]),oN (.store 10 t5 t21),oM 6 t22]) (.seq (rg 8 [oP 24 (.call 7 [(.v (.string ⟨#[123,125]⟩))]),oM 23 t24,oP 25 (.extract t23 0),oP 26 (.extract t23 1),oM 7 t25,oM 8 t26]) (.seq (.seq (rg 50 [oM 27 t2,oP 28 (.bi .neq t27 (vI 0)),oM 29 t28,oE 30 (.mv t4) 29,oE 31 (.bi .neq t30 (vI 0)) 29,oP 32 (.pick t29 vT t31),oM 33 t32,oE 34 (.mv t6) 33,oE 35 (.bi .neq t34 (vI 103)) 33,oP 36 (.pick t33 vT t35),oM 37 t36,oE 38 (.mv t8) 37,oE 39 (.bi .neq t38 (vI 100)) 37,oP 40 (.pick t37 vT t39),oM 41 t40,oE 42 (.mv t1) 41,oE 43 (.len t42) 41,oE 44 (.bi .neq t43 (vI 3)) 41,oP 45 (.pick t41 vT t44),oM 46 t45,oE 47 (.faddr 1 t3) 46,oE 48 (.load none t47) 46,oE 49 (.bi .neq t48 (vI 3)) 46,oP 50 (.pick t46 vT t49)]) (.cond t50 (.seq (rg 0 [oP 0 (.mv vF)]) (.cn [0] .ret)) .skip)) (.seq (rg 0 [oP 51 (.load (some 10) t3),oP 52 (.call 15 [t51,(vI 10)]),oP 53 (.bi .eql t52 (vI 0)),oM 54 t53,oF 55 (.load (some 10) t3) 54,oF 56 (.call 15 [t55,(vI 11)]) 54,oF 57 (.bi .eql t56 (vI 105)) 54,oP 58 (.pick t54 t57 vF),oM 59 t58,oF 60 (.mv t1) 59,oF 61 (.iaddr 10 t60 (vI 0)) 59,oF 62 (.load (some 10) t61) 59,oF 63 (.call 15 [t62,(vI 1)]) 59,oF 64 (.bi .eql t63 (vI 0)) 59,oP 65 (.pick t59 t64 vF),oM 66 t65,oF 67 (.mv t1) 66,oF 68 (.iaddr 10 t67 (vI 2)) 66,oF 69 (.load (some 10) t68) 66,oF 70 (.call 15 [t69,(vI 4)]) 66,oF 71 (.bi .eql t70 (vI 0)) 66,oP 72 (.pick t66 t71 vF),oM 0 t72]) (.cn [0] .ret))))))))
theorem zbu_chk:chk Tryd.prog 6 []=some (zbu_q.erase,[.tmp 0],73):=by kernel_rfl
def zbu_s:Option Bool :=
 (zbn_s (⟨#[123,34,107,101,121,115,34,58,91,123,34,107,116,121,34,58,34,111,99,116,34,44,34,107,105,100,34,58,34,97,34,125,44,123,34,107,116,121,34,58,34,69,67,34,44,34,99,114,118,34,58,34,80,45,50,53,54,34,44,34,107,105,100,34,58,34,98,34,44,34,117,115,101,34,58,34,115,105,103,34,125,44,123,34,107,116,121,34,58,34,82,83,65,34,125,93,125]⟩:BA)).bind fun r1 =>
 (zbm_s r1.1 (⟨#[98]⟩:BA)).bind fun r2 =>
 (zbm_s r1.1 (⟨#[99]⟩:BA)).bind fun r3 =>
 (zbn_s (⟨#[123,125]⟩:BA)).bind fun r4 =>
 bif ((((((!decide (r1.2=(0:Int))) || (!decide (r2.2=(0:Int)))) || (!decide (r3.2=(103:Int)))) || (!decide (r4.2=(100:Int)))) || (!decide ((r1.1.length:Int)=(3:Int)))) || (!decide (r2.1.kty=(3:Int)))) then (
  some false)
 else (
  (zbl_s r2.1 (10:Int)).bind fun r5 =>
  bif decide (r5=(0:Int)) then (
   (zbl_s r2.1 (11:Int)).bind fun r6 =>
   gd ((decide (r6=(105:Int)))=true→0≤(0:Int)∧(0:Int)<r1.1.length) <|
   gd ((decide (r6=(105:Int)))=true→(Int.toNat (0:Int))<r1.1.length) <|
   bif decide (r6=(105:Int)) then (
    gd ((Int.toNat (0:Int))<r1.1.length) <|
    gd ((Int.toNat (0:Int))<r1.1.length) <|
    gd ((Int.toNat (0:Int))<r1.1.length) <|
    gd ((Int.toNat (0:Int))<r1.1.length) <|
    (zbl_s (⟨(r1.1.getD (Int.toNat (0:Int)) (NT.dft [.rw .node,.int .i64,.str,.bool,.str,.bool,.str,.bool,.rw .str,.bool])).1,(r1.1.getD (Int.toNat (0:Int)) (NT.dft [.rw .node,.int .i64,.str,.bool,.str,.bool,.str,.bool,.rw .str,.bool])).2.1,(r1.1.getD (Int.toNat (0:Int)) (NT.dft [.rw .node,.int .i64,.str,.bool,.str,.bool,.str,.bool,.rw .str,.bool])).2.2.1,(r1.1.getD (Int.toNat (0:Int)) (NT.dft [.rw .node,.int .i64,.str,.bool,.str,.bool,.str,.bool,.rw .str,.bool])).2.2.2.1,(r1.1.getD (Int.toNat (0:Int)) (NT.dft [.rw .node,.int .i64,.str,.bool,.str,.bool,.str,.bool,.rw .str,.bool])).2.2.2.2.1,(r1.1.getD (Int.toNat (0:Int)) (NT.dft [.rw .node,.int .i64,.str,.bool,.str,.bool,.str,.bool,.rw .str,.bool])).2.2.2.2.2.1,(r1.1.getD (Int.toNat (0:Int)) (NT.dft [.rw .node,.int .i64,.str,.bool,.str,.bool,.str,.bool,.rw .str,.bool])).2.2.2.2.2.2.1,(r1.1.getD (Int.toNat (0:Int)) (NT.dft [.rw .node,.int .i64,.str,.bool,.str,.bool,.str,.bool,.rw .str,.bool])).2.2.2.2.2.2.2.1,(r1.1.getD (Int.toNat (0:Int)) (NT.dft [.rw .node,.int .i64,.str,.bool,.str,.bool,.str,.bool,.rw .str,.bool])).2.2.2.2.2.2.2.2.1,(r1.1.getD (Int.toNat (0:Int)) (NT.dft [.rw .node,.int .i64,.str,.bool,.str,.bool,.str,.bool,.rw .str,.bool])).2.2.2.2.2.2.2.2.2.1⟩:qHj) (1:Int)).bind fun r7 =>
    gd ((decide (r7=(0:Int)))=true→0≤(2:Int)∧(2:Int)<r1.1.length) <|
    gd ((decide (r7=(0:Int)))=true→(Int.toNat (2:Int))<r1.1.length) <|
    bif decide (r7=(0:Int)) then (
     gd ((Int.toNat (2:Int))<r1.1.length) <|
     gd ((Int.toNat (2:Int))<r1.1.length) <|
     gd ((Int.toNat (2:Int))<r1.1.length) <|
     gd ((Int.toNat (2:Int))<r1.1.length) <|
     (zbl_s (⟨(r1.1.getD (Int.toNat (2:Int)) (NT.dft [.rw .node,.int .i64,.str,.bool,.str,.bool,.str,.bool,.rw .str,.bool])).1,(r1.1.getD (Int.toNat (2:Int)) (NT.dft [.rw .node,.int .i64,.str,.bool,.str,.bool,.str,.bool,.rw .str,.bool])).2.1,(r1.1.getD (Int.toNat (2:Int)) (NT.dft [.rw .node,.int .i64,.str,.bool,.str,.bool,.str,.bool,.rw .str,.bool])).2.2.1,(r1.1.getD (Int.toNat (2:Int)) (NT.dft [.rw .node,.int .i64,.str,.bool,.str,.bool,.str,.bool,.rw .str,.bool])).2.2.2.1,(r1.1.getD (Int.toNat (2:Int)) (NT.dft [.rw .node,.int .i64,.str,.bool,.str,.bool,.str,.bool,.rw .str,.bool])).2.2.2.2.1,(r1.1.getD (Int.toNat (2:Int)) (NT.dft [.rw .node,.int .i64,.str,.bool,.str,.bool,.str,.bool,.rw .str,.bool])).2.2.2.2.2.1,(r1.1.getD (Int.toNat (2:Int)) (NT.dft [.rw .node,.int .i64,.str,.bool,.str,.bool,.str,.bool,.rw .str,.bool])).2.2.2.2.2.2.1,(r1.1.getD (Int.toNat (2:Int)) (NT.dft [.rw .node,.int .i64,.str,.bool,.str,.bool,.str,.bool,.rw .str,.bool])).2.2.2.2.2.2.2.1,(r1.1.getD (Int.toNat (2:Int)) (NT.dft [.rw .node,.int .i64,.str,.bool,.str,.bool,.str,.bool,.rw .str,.bool])).2.2.2.2.2.2.2.2.1,(r1.1.getD (Int.toNat (2:Int)) (NT.dft [.rw .node,.int .i64,.str,.bool,.str,.bool,.str,.bool,.rw .str,.bool])).2.2.2.2.2.2.2.2.2.1⟩:qHj) (4:Int)).bind fun r8 =>
     some (decide (r8=(0:Int))))
    else (
     some false))
   else (
    gd (false=true→0≤(2:Int)∧(2:Int)<r1.1.length) <|
    gd (false=true→(Int.toNat (2:Int))<r1.1.length) <|
    some false))
  else (
   gd (false=true→0≤(0:Int)∧(0:Int)<r1.1.length) <|
   gd (false=true→(Int.toNat (0:Int))<r1.1.length) <|
   gd (false=true→0≤(2:Int)∧(2:Int)<r1.1.length) <|
   gd (false=true→(Int.toNat (2:Int))<r1.1.length) <|
   some false))
def zbu_G:Nat→Option CQ:=tblQ [(7,zbn_w),(12,zbm_w),(15,zbl_w)]
theorem zbu_Gok:∀f C,zbu_G f=some C→qAe Tryd.prog f C:=qAi ⟨zbn_ok,zbm_ok,zbl_ok,tV⟩
def zbu_L:Nat→SubQ:=tblL []
theorem zbu_subs:qAo zbu_L zbu_G 0 9 73 zbu_q:=qAk (show qAr zbu_L zbu_G 0 9 73 [] from tV)
def zbu_da:=(dNil:Dec Unit (List SV))
def zbu_db:=(dNil:Dec Unit (List SB))
def zbu_c:CS:=mkC zbu_da zbu_db (fun x y=>zbu_s) (fun x y r=>.c (.o (.vB r))) fun x y r=>[]
theorem zbu_val:qAl Tryd.prog 6 zbu_c:=qAn zbu_chk 9 zbu_Gok 0 (fun x=>Nat.le_of_ble_eq_true rfl) (fun y=>rfl) zbu_subs fun x y=>by
 simp only [zbu_s,-eq_self,qAc,qAf,obA,obS,slL,slR,qAd];kernel_rfl
def zbu_w:CQ:=qCu [] zbu_c
theorem zbu_ok:qAe Tryd.prog 6 zbu_w:=qAx zbu_val
def zby_b0:IQ:=(.loop [0,1,5] (.seq (.seq (rg 14 [oM 11 t5,oM 12 t0,oP 13 (.len t12),oP 14 (.bi .lss t11 t13)]) (.cond t14 .skip (.cn [] (.exit 0)))) (.seq (.block 1 (.seq (.reg 25 (some [0,1,2,3,4,5,6,7,8]) [oM 17 t0,oM 18 t5,oP 19 (.iaddr 1 t17 t18),oP 20 (.load none t19),oM 21 t1,oM 22 t5,oP 23 (.iaddr 1 t21 t22),oP 24 (.load none t23),oP 25 (.bi .neq t20 t24)]) (.cond t25 (.seq (rg 4 [oP 4 (.mv vF)]) (.cn [4] .ret)) .skip))) (rg 5 [oM 15 t5,oP 16 (.bi .add t15 (vI 1)),oM 5 t16]))))
def zby_q:IQ:=(.seq (rg 4 [oP 4 (.mv vF)]) (.seq (.seq (rg 10 [oM 6 t0,oP 7 (.len t6),oM 8 t1,oP 9 (.len t8),oP 10 (.bi .neq t7 t9)]) (.cond t10 (.seq (rg 4 [oP 4 (.mv vF)]) (.cn [4] .ret)) .skip)) (.seq (.seq (rg 5 [oP 5 (.mv (vI 0))]) (.block 0 (.cn [0,1,5] (.sub 0 zby_b0)))) (.seq (rg 4 [oP 4 (.mv vT)]) (.cn [4] .ret)))))
theorem zby_chk:chk Tryd.prog 28 []=some (zby_q.erase,[.tmp 4],26):=by kernel_rfl
def qFn (i:Int) (a b:List BA):Option (Int ⊕ (Bool ⊕ Unit)) :=
 bif decide (i<(a.length:Int)) then (
  gd (0≤i∧i<a.length) <|
  gd ((Int.toNat i)<a.length) <|
  gd (0≤i∧i<b.length) <|
  gd ((Int.toNat i)<b.length) <|
  bif (!decide ((a.getD (Int.toNat i) (ET.dft .str))=(b.getD (Int.toNat i) (ET.dft .str)))) then (
   some (.inr (.inl false)))
  else (
   gd (qAj (i+(1:Int))) <|
   some (.inl (i+(1:Int)))))
 else (
  some (.inr (.inr ())))
def zby_p0 (i:Int) (a b:List BA):Option (Bool ⊕ Unit) :=
 qBm (fun x:Int=>qFn x a b) i
def zby_s (a b:(List BA)):Option Bool :=
 bif (!decide ((a.length:Int)=(b.length:Int))) then (
  some false)
 else (
  (zby_p0 (0:Int) a b).bind fun o1=>(Sum.elim (fun (o1_0:Bool) =>
   some o1_0) (fun (o1_1:Unit) =>
   some true)) o1)
def zby_G:Nat→Option CQ:=tblQ []
theorem zby_Gok:∀f C,zby_G f=some C→qAe Tryd.prog f C:=fun f C h=>by cases h
def zby_d0:=(dQS (qAb (dSO 0 (dO 0)) (qAb (dSO 1 (dO 1)) (qAb (dSO 5 dZ) dNil))) (qAb (qBh .str) (qAb (qBh .str) dNil)))
def zby_l0:SubQ:=mkL zby_d0 (fun x=>zby_p0 x.1.2.2.1 x.2.1 x.2.2.1) fun x r R kn kx kr=>(Sum.elim (fun (r_0:Bool)=>kr ⟨[sL 4 (.vB r_0)],[],[.view .str x.2.1,.view .str x.2.2.1]⟩) (fun (r_1:Unit)=>kx 0 ⟨[],[],[.view .str x.2.1,.view .str x.2.2.1]⟩)) r
def zby_L:Nat→SubQ:=tblL [(0,zby_l0)]
theorem zby_sub0:qBu zby_L zby_G 2 6 26 0 zby_b0:=qAw (show zby_L 0=zby_l0 from by kernel_rfl) fun x R kn kx kr=>qAv (step:=fun y=>qFn y x.2.1 x.2.2.1) (enc:=fun (y:Int)=>zby_d0.e ((x.1.1,x.1.2.1,y,x.1.2.2.2),x.2)) (fun y=>by kernel_rfl) (fun y ki=>by simp only [qFn,-eq_self,qAc,qAf,obA,obS,slL,slR,qAd]; kernel_rfl) x.1.2.2.1
theorem zby_subs:qAo zby_L zby_G 2 6 26 zby_q:=qAk (show qAr zby_L zby_G 2 6 26 [(0,zby_b0)] from ⟨zby_sub0,tV⟩)
def zby_da:=(qAb (dVC (dCO (dO 0))) (qAb (dVC (dCO (dO 1))) dNil))
def zby_db:=(qAb (qBh .str) (qAb (qBh .str) dNil))
def zby_c:CS:=mkC zby_da zby_db (fun x y=>zby_s y.1 y.2.1) (fun x y r=>.c (.o (.vB r))) fun x y r=>[.view .str y.1,.view .str y.2.1]
theorem zby_val:qAl Tryd.prog 28 zby_c:=qAn zby_chk 6 zby_Gok 2 (fun x=>Nat.le_of_ble_eq_true rfl) (fun y=>rfl) zby_subs fun x y=>by
 simp only [zby_s,-eq_self,qAc,qAf,obA,obS,slL,slR,qAd];kernel_rfl
def zby_w:CQ:=nestQ (qBk [(0,none,some (.str,9)),(1,none,some (.str,9))] (qCu [false,false] zby_c))
theorem zby_ok:qAe Tryd.prog 28 zby_w:=(fun h=>qC6 (prep_nat (liftH_nat h.1)) (qCj h)) zby_val
def zbx_b0:IQ:=(.loop [0,1,5] (.seq (.seq (rg 14 [oM 11 t5,oM 12 t0,oP 13 (.len t12),oP 14 (.bi .lss t11 t13)]) (.cond t14 .skip (.cn [] (.exit 0)))) (.seq (.block 1 (.seq (.reg 25 (some [0,1,2,3,4,5,6,7,8]) [oM 17 t0,oM 18 t5,oP 19 (.iaddr 6 t17 t18),oP 20 (.load (some 6) t19),oM 21 t1,oM 22 t5,oP 23 (.iaddr 6 t21 t22),oP 24 (.load (some 6) t23),oP 25 (.ext (.aggEq true [.int .i64,.str,.str,.bool,.int .i64,.int .i64]) [t20,t24])]) (.cond t25 (.seq (rg 4 [oP 4 (.mv vF)]) (.cn [4] .ret)) .skip))) (rg 5 [oM 15 t5,oP 16 (.bi .add t15 (vI 1)),oM 5 t16]))))
def zbx_q:IQ:=(.seq (rg 4 [oP 4 (.mv vF)]) (.seq (.seq (rg 10 [oM 6 t0,oP 7 (.len t6),oM 8 t1,oP 9 (.len t8),oP 10 (.bi .neq t7 t9)]) (.cond t10 (.seq (rg 4 [oP 4 (.mv vF)]) (.cn [4] .ret)) .skip)) (.seq (.seq (rg 5 [oP 5 (.mv (vI 0))]) (.block 0 (.cn [0,1,5] (.sub 0 zbx_b0)))) (.seq (rg 4 [oP 4 (.mv vT)]) (.cn [4] .ret)))))
theorem zbx_chk:chk Tryd.prog 29 []=some (zbx_q.erase,[.tmp 4],26):=by kernel_rfl
def qFp (i:Int) (a b:List Eng.Node):Option (Int ⊕ (Bool ⊕ Unit)) :=
 bif decide (i<(a.length:Int)) then (
  gd (0≤i∧i<a.length) <|
  gd ((Int.toNat i)<a.length) <|
  gd (0≤i∧i<b.length) <|
  gd ((Int.toNat i)<b.length) <|
  bif (!(decide (((a.getD (Int.toNat i) (ET.dft .node)).kind)=((b.getD (Int.toNat i) (ET.dft .node)).kind)) && (decide (((a.getD (Int.toNat i) (ET.dft .node)).key)=((b.getD (Int.toNat i) (ET.dft .node)).key)) && (decide (((a.getD (Int.toNat i) (ET.dft .node)).text)=((b.getD (Int.toNat i) (ET.dft .node)).text)) && ((((a.getD (Int.toNat i) (ET.dft .node)).whole) == ((b.getD (Int.toNat i) (ET.dft .node)).whole)) && (decide (((a.getD (Int.toNat i) (ET.dft .node)).int)=((b.getD (Int.toNat i) (ET.dft .node)).int)) && (decide (((a.getD (Int.toNat i) (ET.dft .node)).kids)=((b.getD (Int.toNat i) (ET.dft .node)).kids)) && true))))))) then (
   some (.inr (.inl false)))
  else (
   gd (qAj (i+(1:Int))) <|
   some (.inl (i+(1:Int)))))
 else (
  some (.inr (.inr ())))
def zbx_p0 (i:Int) (a b:List Eng.Node):Option (Bool ⊕ Unit) :=
 qBm (fun x:Int=>qFp x a b) i
def zbx_s (a b:(List Eng.Node)):Option Bool :=
 bif (!decide ((a.length:Int)=(b.length:Int))) then (
  some false)
 else (
  (zbx_p0 (0:Int) a b).bind fun o1=>(Sum.elim (fun (o1_0:Bool) =>
   some o1_0) (fun (o1_1:Unit) =>
   some true)) o1)
def zbx_G:Nat→Option CQ:=tblQ []
theorem zbx_Gok:∀f C,zbx_G f=some C→qAe Tryd.prog f C:=fun f C h=>by cases h
def zbx_d0:=(dQS (qAb (dSO 0 (dO 0)) (qAb (dSO 1 (dO 1)) (qAb (dSO 5 dZ) dNil))) (qAb (qBh .node) (qAb (qBh .node) dNil)))
def zbx_l0:SubQ:=mkL zbx_d0 (fun x=>zbx_p0 x.1.2.2.1 x.2.1 x.2.2.1) fun x r R kn kx kr=>(Sum.elim (fun (r_0:Bool)=>kr ⟨[sL 4 (.vB r_0)],[],[.view .node x.2.1,.view .node x.2.2.1]⟩) (fun (r_1:Unit)=>kx 0 ⟨[],[],[.view .node x.2.1,.view .node x.2.2.1]⟩)) r
def zbx_L:Nat→SubQ:=tblL [(0,zbx_l0)]
theorem zbx_sub0:qBu zbx_L zbx_G 2 6 26 0 zbx_b0:=qAw (show zbx_L 0=zbx_l0 from by kernel_rfl) fun x R kn kx kr=>qAv (step:=fun y=>qFp y x.2.1 x.2.2.1) (enc:=fun (y:Int)=>zbx_d0.e ((x.1.1,x.1.2.1,y,x.1.2.2.2),x.2)) (fun y=>by kernel_rfl) (fun y ki=>by simp only [qFp,-eq_self,qAc,qAf,obA,obS,slL,slR,qAd]; kernel_rfl) x.1.2.2.1
theorem zbx_subs:qAo zbx_L zbx_G 2 6 26 zbx_q:=qAk (show qAr zbx_L zbx_G 2 6 26 [(0,zbx_b0)] from ⟨zbx_sub0,tV⟩)
def zbx_da:=(qAb (dVC (dCO (dO 0))) (qAb (dVC (dCO (dO 1))) dNil))
def zbx_db:=(qAb (qBh .node) (qAb (qBh .node) dNil))
def zbx_c:CS:=mkC zbx_da zbx_db (fun x y=>zbx_s y.1 y.2.1) (fun x y r=>.c (.o (.vB r))) fun x y r=>[.view .node y.1,.view .node y.2.1]
theorem zbx_val:qAl Tryd.prog 29 zbx_c:=qAn zbx_chk 6 zbx_Gok 2 (fun x=>Nat.le_of_ble_eq_true rfl) (fun y=>rfl) zbx_subs fun x y=>by
 simp only [zbx_s,-eq_self,qAc,qAf,obA,obS,slL,slR,qAd];kernel_rfl
def zbx_w:CQ:=nestQ (qBk [(0,none,some (.node,34)),(1,none,some (.node,34))] (qCu [false,false] zbx_c))
theorem zbx_ok:qAe Tryd.prog 29 zbx_w:=(fun h=>qC6 (prep_nat (liftH_nat h.1)) (qCj h)) zbx_val
def zbv_q:IQ:=(.seq (rg 4 [oP 2 (.box 41 10 t0),oP 3 (.box 41 10 t1),oP 4 (.mv vF)]) (.seq (rg 4 [oP 5 (.faddr 1 t2),oP 6 (.load none t5),oP 7 (.faddr 1 t3),oP 8 (.load none t7),oP 9 (.bi .eql t6 t8),oM 10 t9,oF 11 (.faddr 2 t2) 10,oF 12 (.load none t11) 10,oF 13 (.faddr 2 t3) 10,oF 14 (.load none t13) 10,oF 15 (.bi .eql t12 t14) 10,oP 16 (.pick t10 t15 vF),oM 17 t16,oF 18 (.faddr 3 t2) 17,oF 19 (.load none t18) 17,oF 20 (.faddr 3 t3) 17,oF 21 (.load none t20) 17,oF 22 (.beq false t19 t21) 17,oP 23 (.pick t17 t22 vF),oM 24 t23,oF 25 (.faddr 4 t2) 24,oF 26 (.load none t25) 24,oF 27 (.faddr 4 t3) 24,oF 28 (.load none t27) 24,oF 29 (.bi .eql t26 t28) 24,oP 30 (.pick t24 t29 vF),oM 31 t30,oF 32 (.faddr 5 t2) 31,oF 33 (.load none t32) 31,oF 34 (.faddr 5 t3) 31,oF 35 (.load none t34) 31,oF 36 (.beq false t33 t35) 31,oP 37 (.pick t31 t36 vF),oM 38 t37,oF 39 (.faddr 6 t2) 38,oF 40 (.load none t39) 38,oF 41 (.faddr 6 t3) 38,oF 42 (.load none t41) 38,oF 43 (.bi .eql t40 t42) 38,oP 44 (.pick t38 t43 vF),oM 45 t44,oF 46 (.faddr 7 t2) 45,oF 47 (.load none t46) 45,oF 48 (.faddr 7 t3) 45,oF 49 (.load none t48) 45,oF 50 (.beq false t47 t49) 45,oP 51 (.pick t45 t50 vF),oM 52 t51,oF 53 (.faddr 9 t2) 52,oF 54 (.load none t53) 52,oF 55 (.faddr 9 t3) 52,oF 56 (.load none t55) 52,oF 57 (.beq false t54 t56) 52,oP 58 (.pick t52 t57 vF),oM 59 t58,oF 60 (.faddr 8 t2) 59,oF 61 (.load none t60) 59,oF 62 (.faddr 8 t3) 59,oF 63 (.load none t62) 59,oF 64 (.call 28 [t61,t63]) 59,oP 65 (.pick t59 t64 vF),oM 66 t65,oF 67 (.faddr 0 t2) 66,oF 68 (.load none t67) 66,oF 69 (.faddr 0 t3) 66,oF 70 (.load none t69) 66,oF 71 (.call 29 [t68,t70]) 66,oP 72 (.pick t66 t71 vF),oM 4 t72]) (.cn [4] .ret)))
theorem zbv_chk:chk Tryd.prog 13 []=some (zbv_q.erase,[.tmp 4],73):=by kernel_rfl
def zbv_s (a b:qHj):Option Bool :=
 bif ((((((((decide (a.kty=b.kty)) && (decide (a.kid=b.kid))) && (a.hasKid == b.hasKid)) && (decide (a.use=b.use))) && (a.hasUse == b.hasUse)) && (decide (a.alg=b.alg))) && (a.hasAlg == b.hasAlg)) && (a.hasOps == b.hasOps)) then (
  (zby_s a.ops b.ops).bind fun r1 =>
  bif r1 then (
   (zbx_s a.value b.value).bind fun r2 =>
   some r2)
  else (
   some false))
 else (
  some false)
def zbv_G:Nat→Option CQ:=tblQ [(28,zby_w),(29,zbx_w)]
theorem zbv_Gok:∀f C,zbv_G f=some C→qAe Tryd.prog f C:=qAi ⟨zby_ok,zbx_ok,tV⟩
def zbv_L:Nat→SubQ:=tblL []
theorem zbv_subs:qAo zbv_L zbv_G 4 5 73 zbv_q:=qAk (show qAr zbv_L zbv_G 4 5 73 [] from tV)
def zbv_da:=(qAb (dVC (dCA zDJK2)) (qAb (dVC (dCA (qAb (dO 2) (qAb dZ (qAb dS (qAb dB (qAb dS (qAb dB (qAb dS (qAb dB (qAb (dO 3) (qAb dB dNil)))))))))))) dNil))
def zbv_db:=(qAb (qBh .node) (qAb (qBh .str) (qAb (qBh .node) (qAb (qBh .str) dNil))))
def zbv_c:CS:=mkC zbv_da zbv_db (fun x y=>zbv_s (⟨y.1,x.1.2.1,x.1.2.2.1,x.1.2.2.2.1,x.1.2.2.2.2.1,x.1.2.2.2.2.2.1,x.1.2.2.2.2.2.2.1,x.1.2.2.2.2.2.2.2.1,y.2.1,x.1.2.2.2.2.2.2.2.2.2.1⟩:qHj) (⟨y.2.2.1,x.2.1.2.1,x.2.1.2.2.1,x.2.1.2.2.2.1,x.2.1.2.2.2.2.1,x.2.1.2.2.2.2.2.1,x.2.1.2.2.2.2.2.2.1,x.2.1.2.2.2.2.2.2.2.1,y.2.2.2.1,x.2.1.2.2.2.2.2.2.2.2.2.1⟩:qHj)) (fun x y r=>.c (.o (.vB r))) fun x y r=>[.view .node y.1,.view .str y.2.1,.view .node y.2.2.1,.view .str y.2.2.2.1]
theorem zbv_val:qAl Tryd.prog 13 zbv_c:=qAn zbv_chk 5 zbv_Gok 4 (fun x=>Nat.le_of_ble_eq_true rfl) (fun y=>rfl) zbv_subs fun x y=>by
 simp only [zbv_s,-eq_self,qAc,qAf,obA,obS,slL,slR,qAd];kernel_rfl
def zbv_w:CQ:=nestQ (qBk [(0,some 0,some (.node,34)),(0,some 8,some (.str,9)),(1,some 0,some (.node,34)),(1,some 8,some (.str,9))] (qCu [false,false,false,false] zbv_c))
theorem zbv_ok:qAe Tryd.prog 13 zbv_w:=(fun h=>qC6 (prep_nat (liftH_nat h.1)) (qCj h)) zbv_val
def zbw_b0:IQ:=(.loop [0,1,5] (.seq (.seq (rg 14 [oM 11 t5,oM 12 t0,oP 13 (.len t12),oP 14 (.bi .lss t11 t13)]) (.cond t14 .skip (.cn [] (.exit 0)))) (.seq (.block 1 (.seq (.reg 26 (some [0,1,2,3,4,5,6,7,8,9]) [oM 17 t0,oM 18 t5,oP 19 (.iaddr 10 t17 t18),oP 20 (.load (some 10) t19),oM 21 t1,oM 22 t5,oP 23 (.iaddr 10 t21 t22),oP 24 (.load (some 10) t23),oP 25 (.call 13 [t20,t24]),oP 26 (.un .not t25)]) (.cond t26 (.seq (rg 4 [oP 4 (.mv vF)]) (.cn [4] .ret)) .skip))) (rg 5 [oM 15 t5,oP 16 (.bi .add t15 (vI 1)),oM 5 t16]))))
def zbw_q:IQ:=(.seq (rg 4 [oP 4 (.mv vF)]) (.seq (.seq (rg 10 [oM 6 t0,oP 7 (.len t6),oM 8 t1,oP 9 (.len t8),oP 10 (.bi .neq t7 t9)]) (.cond t10 (.seq (rg 4 [oP 4 (.mv vF)]) (.cn [4] .ret)) .skip)) (.seq (.seq (rg 5 [oP 5 (.mv (vI 0))]) (.block 0 (.cn [0,1,5] (.sub 0 zbw_b0)))) (.seq (rg 4 [oP 4 (.mv vT)]) (.cn [4] .ret)))))
theorem zbw_chk:chk Tryd.prog 19 []=some (zbw_q.erase,[.tmp 4],27):=by kernel_rfl
def qFj (i:Int) (a b:List ((List Eng.Node) × Int × BA × Bool × BA × Bool × BA × Bool × (List BA) × Bool × Unit)):Option (Int ⊕ (Bool ⊕ Unit)) :=
 bif decide (i<(a.length:Int)) then (
  gd (0≤i∧i<a.length) <|
  gd ((Int.toNat i)<a.length) <|
  gd (0≤i∧i<b.length) <|
  gd ((Int.toNat i)<b.length) <|
  gd ((Int.toNat i)<a.length) <|
  gd ((Int.toNat i)<a.length) <|
  gd ((Int.toNat i)<b.length) <|
  gd ((Int.toNat i)<b.length) <|
  gd ((Int.toNat i)<a.length) <|
  gd ((Int.toNat i)<a.length) <|
  gd ((Int.toNat i)<b.length) <|
  gd ((Int.toNat i)<b.length) <|
  (zbv_s (⟨(a.getD (Int.toNat i) (NT.dft [.rw .node,.int .i64,.str,.bool,.str,.bool,.str,.bool,.rw .str,.bool])).1,(a.getD (Int.toNat i) (NT.dft [.rw .node,.int .i64,.str,.bool,.str,.bool,.str,.bool,.rw .str,.bool])).2.1,(a.getD (Int.toNat i) (NT.dft [.rw .node,.int .i64,.str,.bool,.str,.bool,.str,.bool,.rw .str,.bool])).2.2.1,(a.getD (Int.toNat i) (NT.dft [.rw .node,.int .i64,.str,.bool,.str,.bool,.str,.bool,.rw .str,.bool])).2.2.2.1,(a.getD (Int.toNat i) (NT.dft [.rw .node,.int .i64,.str,.bool,.str,.bool,.str,.bool,.rw .str,.bool])).2.2.2.2.1,(a.getD (Int.toNat i) (NT.dft [.rw .node,.int .i64,.str,.bool,.str,.bool,.str,.bool,.rw .str,.bool])).2.2.2.2.2.1,(a.getD (Int.toNat i) (NT.dft [.rw .node,.int .i64,.str,.bool,.str,.bool,.str,.bool,.rw .str,.bool])).2.2.2.2.2.2.1,(a.getD (Int.toNat i) (NT.dft [.rw .node,.int .i64,.str,.bool,.str,.bool,.str,.bool,.rw .str,.bool])).2.2.2.2.2.2.2.1,(a.getD (Int.toNat i) (NT.dft [.rw .node,.int .i64,.str,.bool,.str,.bool,.str,.bool,.rw .str,.bool])).2.2.2.2.2.2.2.2.1,(a.getD (Int.toNat i) (NT.dft [.rw .node,.int .i64,.str,.bool,.str,.bool,.str,.bool,.rw .str,.bool])).2.2.2.2.2.2.2.2.2.1⟩:qHj) (⟨(b.getD (Int.toNat i) (NT.dft [.rw .node,.int .i64,.str,.bool,.str,.bool,.str,.bool,.rw .str,.bool])).1,(b.getD (Int.toNat i) (NT.dft [.rw .node,.int .i64,.str,.bool,.str,.bool,.str,.bool,.rw .str,.bool])).2.1,(b.getD (Int.toNat i) (NT.dft [.rw .node,.int .i64,.str,.bool,.str,.bool,.str,.bool,.rw .str,.bool])).2.2.1,(b.getD (Int.toNat i) (NT.dft [.rw .node,.int .i64,.str,.bool,.str,.bool,.str,.bool,.rw .str,.bool])).2.2.2.1,(b.getD (Int.toNat i) (NT.dft [.rw .node,.int .i64,.str,.bool,.str,.bool,.str,.bool,.rw .str,.bool])).2.2.2.2.1,(b.getD (Int.toNat i) (NT.dft [.rw .node,.int .i64,.str,.bool,.str,.bool,.str,.bool,.rw .str,.bool])).2.2.2.2.2.1,(b.getD (Int.toNat i) (NT.dft [.rw .node,.int .i64,.str,.bool,.str,.bool,.str,.bool,.rw .str,.bool])).2.2.2.2.2.2.1,(b.getD (Int.toNat i) (NT.dft [.rw .node,.int .i64,.str,.bool,.str,.bool,.str,.bool,.rw .str,.bool])).2.2.2.2.2.2.2.1,(b.getD (Int.toNat i) (NT.dft [.rw .node,.int .i64,.str,.bool,.str,.bool,.str,.bool,.rw .str,.bool])).2.2.2.2.2.2.2.2.1,(b.getD (Int.toNat i) (NT.dft [.rw .node,.int .i64,.str,.bool,.str,.bool,.str,.bool,.rw .str,.bool])).2.2.2.2.2.2.2.2.2.1⟩:qHj)).bind fun r2 =>
  bif (!r2) then (
   some (.inr (.inl false)))
  else (
   gd (qAj (i+(1:Int))) <|
   some (.inl (i+(1:Int)))))
 else (
  some (.inr (.inr ())))
def zbw_p0 (i:Int) (a b:List ((List Eng.Node) × Int × BA × Bool × BA × Bool × BA × Bool × (List BA) × Bool × Unit)):Option (Bool ⊕ Unit) :=
 qBm (fun x:Int=>qFj x a b) i
def zbw_s (a b:(List ((List Eng.Node) × Int × BA × Bool × BA × Bool × BA × Bool × (List BA) × Bool × Unit))):Option Bool :=
 bif (!decide ((a.length:Int)=(b.length:Int))) then (
  some false)
 else (
  (zbw_p0 (0:Int) a b).bind fun o3=>(Sum.elim (fun (o3_0:Bool) =>
   some o3_0) (fun (o3_1:Unit) =>
   some true)) o3)
def zbw_G:Nat→Option CQ:=tblQ [(13,zbv_w)]
theorem zbw_Gok:∀f C,zbw_G f=some C→qAe Tryd.prog f C:=qAi ⟨zbv_ok,tV⟩
def zbw_d0:=(dQS (qAb (dSO 0 (dBsl 0)) (qAb (dSO 1 (dBsl 1)) (qAb (dSO 5 dZ) dNil))) (qAb zDJK1 (qAb zDJK1 dNil)))
def zbw_l0:SubQ:=mkL zbw_d0 (fun x=>zbw_p0 x.1.2.2.1 x.2.1 x.2.2.1) fun x r R kn kx kr=>(Sum.elim (fun (r_0:Bool)=>kr ⟨[sL 4 (.vB r_0)],[],[.bag [.rw .node,.int .i64,.str,.bool,.str,.bool,.str,.bool,.rw .str,.bool] 41 x.2.1,.bag [.rw .node,.int .i64,.str,.bool,.str,.bool,.str,.bool,.rw .str,.bool] 41 x.2.2.1]⟩) (fun (r_1:Unit)=>kx 0 ⟨[],[],[.bag [.rw .node,.int .i64,.str,.bool,.str,.bool,.str,.bool,.rw .str,.bool] 41 x.2.1,.bag [.rw .node,.int .i64,.str,.bool,.str,.bool,.str,.bool,.rw .str,.bool] 41 x.2.2.1]⟩)) r
def zbw_L:Nat→SubQ:=tblL [(0,zbw_l0)]
theorem zbw_sub0:qBu zbw_L zbw_G 2 6 27 0 zbw_b0:=qAw (show zbw_L 0=zbw_l0 from by kernel_rfl) fun x R kn kx kr=>qAv (step:=fun y=>qFj y x.2.1 x.2.2.1) (enc:=fun (y:Int)=>zbw_d0.e ((x.1.1,x.1.2.1,y,x.1.2.2.2),x.2)) (fun y=>by kernel_rfl) (fun y ki=>by simp only [qFj,-eq_self,qAc,qAf,obA,obS,slL,slR,qAd]; kernel_rfl) x.1.2.2.1
theorem zbw_subs:qAo zbw_L zbw_G 2 6 27 zbw_q:=qAk (show qAr zbw_L zbw_G 2 6 27 [(0,zbw_b0)] from ⟨zbw_sub0,tV⟩)
def zbw_da:=(qAb (dVC (dCO (dBsl 0))) (qAb (dVC (dCO (dBsl 1))) dNil))
def zbw_db:=(qAb zDJK1 (qAb zDJK1 dNil))
def zbw_c:CS:=mkC zbw_da zbw_db (fun x y=>zbw_s y.1 y.2.1) (fun x y r=>.c (.o (.vB r))) fun x y r=>[.bag [.rw .node,.int .i64,.str,.bool,.str,.bool,.str,.bool,.rw .str,.bool] 41 y.1,.bag [.rw .node,.int .i64,.str,.bool,.str,.bool,.str,.bool,.rw .str,.bool] 41 y.2.1]
theorem zbw_val:qAl Tryd.prog 19 zbw_c:=qAn zbw_chk 6 zbw_Gok 2 (fun x=>Nat.le_of_ble_eq_true rfl) (fun y=>rfl) zbw_subs fun x y=>by
 simp only [zbw_s,-eq_self,qAc,qAf,obA,obS,slL,slR,qAd];kernel_rfl
def zbw_w:CQ:=qBk [(0,none,some ((.bag [.rw .node,.int .i64,.str,.bool,.str,.bool,.str,.bool,.rw .str,.bool]),41)),(1,none,some ((.bag [.rw .node,.int .i64,.str,.bool,.str,.bool,.str,.bool,.rw .str,.bool]),41))] (qB5 [true,true] zbw_c)
theorem zbw_ok:qAe Tryd.prog 19 zbw_w:=qAs zbw_val
def zbt_q:IQ:=(.seq (rg 2 [oP 2 (.mv vF)]) (.seq (.seq (rg 13 [oP 12 (.call 6 []),oP 13 (.un .not t12)]) (.cond t13 (.seq (rg 2 [oP 2 (.mv vF)]) (.cn [2] .ret)) .skip)) (.seq (rg 4 [oM 15 t0,oP 16 (.call 7 [t15]),oM 14 t16,oP 17 (.extract t14 0),oP 18 (.extract t14 1),oM 3 t17,oM 4 t18]) (.seq (rg 7 [oM 20 t0,oP 21 (.call 8 [t20]),oM 19 t21,oP 22 (.extract t19 0),oP 23 (.extract t19 1),oP 24 (.extract t19 2),oM 5 t22,oM 6 t23,oM 7 t24]) (.seq (.seq (rg 27 [oM 25 t0,oP 26 (.lenS t25),oP 27 (.bi .gtr t26 (vI 262144))]) (.cond t27 (.seq (rg 2 [oM 28 t4,oP 29 (.bi .eql t28 (vI 10)),oM 30 t29,oF 31 (.mv t3) 30,oF 32 (.len t31) 30,oF 33 (.bi .eql t32 (vI 0)) 30,oP 34 (.pick t30 t33 vF),oM 2 t34]) (.cn [2] .ret)) .skip)) (.seq (.seq (rg 36 [oM 35 t6,oP 36 (.bi .neq t35 (vI 0))]) (.cond t36 (.seq (rg 2 [oM 37 t4,oM 38 t6,oP 39 (.bi .eql t37 t38),oM 40 t39,oF 41 (.mv t3) 40,oF 42 (.len t41) 40,oF 43 (.bi .eql t42 (vI 0)) 40,oP 44 (.pick t40 t43 vF),oM 2 t44]) (.cn [2] .ret)) .skip)) (.seq (rg 9 [oM 46 t5,oP 47 (.call 18 [t46]),oM 45 t47,oP 48 (.extract t45 0),oP 49 (.extract t45 1),oM 8 t48,oM 9 t49]) (.seq (.seq (rg 51 [oM 50 t9,oP 51 (.bi .neq t50 (vI 0))]) (.cond t51 (.seq (rg 2 [oM 52 t9,oP 53 (.bi .eql t52 (vI 10)),oM 2 t53]) (.cn [2] .ret)) .skip)) (.seq (rg 11 [oM 55 t8,oP 56 (.call 7 [t55]),oM 54 t56,oP 57 (.extract t54 0),oP 58 (.extract t54 1),oM 10 t57,oM 11 t58]) (.seq (rg 2 [oM 59 t11,oM 60 t4,oP 61 (.bi .eql t59 t60),oM 62 t61,oF 63 (.mv t3) 62,oF 64 (.mv t10) 62,oF 65 (.call 19 [t63,t64]) 62,oP 66 (.pick t62 t65 vF),oM 2 t66]) (.cn [2] .ret)))))))))))
theorem zbt_chk:chk Tryd.prog 4 []=some (zbt_q.erase,[.tmp 2],67):=by kernel_rfl
def zbt_s (doc:BA):Option Bool :=
 (zbu_s).bind fun r1 =>
 bif (!r1) then (
  some false)
 else (
  (zbn_s doc).bind fun r2 =>
  (zak_s doc).bind fun r3 =>
  bif decide ((262144:Int)<(doc.size:Int)) then (
   some ((decide (r2.2=(10:Int))) && (decide ((r2.1.length:Int)=(0:Int)))))
  else (
   bif (!decide (r3.2.1=(0:Int))) then (
    some ((decide (r2.2=r3.2.1)) && (decide ((r2.1.length:Int)=(0:Int)))))
   else (
    (zal_s r3.1).bind fun r4 =>
    bif (!decide (r4.2=(0:Int))) then (
     some (decide (r4.2=(10:Int))))
    else (
     (zbn_s r4.1).bind fun r5 =>
     bif decide (r5.2=r2.2) then (
      (zbw_s r2.1 r5.1).bind fun r6 =>
      some r6)
     else (
      some false)))))
def zbt_G:Nat→Option CQ:=tblQ [(6,zbu_w),(7,zbn_w),(8,zak_w),(18,zal_w),(19,zbw_w)]
theorem zbt_Gok:∀f C,zbt_G f=some C→qAe Tryd.prog f C:=qAi ⟨zbu_ok,zbn_ok,zak_ok,zal_ok,zbw_ok,tV⟩
def zbt_L:Nat→SubQ:=tblL []
theorem zbt_subs:qAo zbt_L zbt_G 0 12 67 zbt_q:=qAk (show qAr zbt_L zbt_G 0 12 67 [] from tV)
def zbt_da:=(qAb (dVC (dCO dS)) dNil)
def zbt_db:=(dNil:Dec Unit (List SB))
def zbt_c:CS:=mkC zbt_da zbt_db (fun x y=>zbt_s x.1) (fun x y r=>.c (.o (.vB r))) fun x y r=>[]
theorem zbt_val:qAl Tryd.prog 4 zbt_c:=qAn zbt_chk 12 zbt_Gok 0 (fun x=>Nat.le_of_ble_eq_true rfl) (fun y=>rfl) zbt_subs fun x y=>by
 simp only [zbt_s,-eq_self,qAc,qAf,obA,obS,slL,slR,qAd];kernel_rfl
end
end Go.Proofs.YtnifdcmeffnpaaaDoor
