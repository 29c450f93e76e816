/-
  Functions as the engine reads them (printed by gen.py).
-/
import Derived.Test.YtpobbbpphnnnhaaGreatDoorEngO
import Derived.Test.YtpobbbpphnnnhaaGreatDoorProg
import Derived.Test.YtpobbbpphnnnhaaGreatDoorJS
import Derived.Test.YtpobbbpphnnnhaaGreatDoorGC
namespace Go.Proofs.YtpobbbpphnnnhaaGreatDoor
open Go.Eng
set_option linter.unusedVariables false
set_option linter.unusedSimpArgs false
set_option maxRecDepth 100000
noncomputable section
abbrev qCp:Type:=List (MapC × Unit)
structure json_reader where
 text:BA
 at_:Int
 state:Int
 out:(List Eng.Node)
 open_:(List Int)
 names:qCp
 key:BA
 code:Int
 bad:Int
def zaj_b0:IQ:=(.loop [0] (.seq (.seq (.reg 59 (some [0,1,2,3,4,5,6,7,8,9,10,11,12,13,14,15,16,17,18,19,20,21,22,23,24,25,26,27,28,29,30,31,32,33,34,35,36,37,38,39,40,41,42,43,44,45,46,47,48,49,50,51,52,53,54,55,56,57]) (rF 2 t0 1++rF 6 t0 0++[oP 10 (.lenS t9),oP 11 (.bi .lss t5 t10),oM 12 t11]++rH oF 13 t0 0 12++rH oF 17 t0 1 12++[oF 21 (.index t16 t20) 12,oF 22 (.bi .eql t21 (vC 32)) 12,oF 23 (.mv t22) 12]++rH oE 24 t0 0 23++rH oE 28 t0 1 23++[oE 32 (.index t27 t31) 23,oE 33 (.bi .eql t32 (vC 9)) 23,oF 34 (.pick t23 vT t33) 12,oF 35 (.mv t34) 12]++rH oE 36 t0 0 35++rH oE 40 t0 1 35++[oE 44 (.index t39 t43) 35,oE 45 (.bi .eql t44 (vC 10)) 35,oF 46 (.pick t35 vT t45) 12,oF 47 (.mv t46) 12]++rH oE 48 t0 0 47++rH oE 52 t0 1 47++[oE 56 (.index t51 t55) 47,oE 57 (.bi .eql t56 (vC 13)) 47,oF 58 (.pick t47 vT t57) 12,oP 59 (.pick t12 t58 vF)])) (.cond t59 .skip (.cn [] (.exit 0)))) (.block 1 (rg 0 (rF 60 t0 1++[oP 64 (.bi .add t63 (vI 1))]++rS 65 t60 1 t64)))))
def zaj_q:IQ:=(.join [] [] (.block 0 (.cn [0] (.sub 0 zaj_b0))))
def qFx (qHo:BA) (qHn:Int):Option (Int ⊕ Int) :=
 gd ((decide (qHn<(qHo.size:Int)))=true→0≤qHn∧qHn<qHo.size) <|
 gd ((decide ((bAt qHo qHn)=(32:Int)))=false→(decide (qHn<(qHo.size:Int)))=true→0≤qHn∧qHn<qHo.size) <|
 gd (((decide ((bAt qHo qHn)=(32:Int))) || (decide ((bAt qHo qHn)=(9:Int))))=false→(decide (qHn<(qHo.size:Int)))=true→0≤qHn∧qHn<qHo.size) <|
 gd ((((decide ((bAt qHo qHn)=(32:Int))) || (decide ((bAt qHo qHn)=(9:Int)))) || (decide ((bAt qHo qHn)=(10:Int))))=false→(decide (qHn<(qHo.size:Int)))=true→0≤qHn∧qHn<qHo.size) <|
 bif ((decide (qHn<(qHo.size:Int))) && ((((decide ((bAt qHo qHn)=(32:Int))) || (decide ((bAt qHo qHn)=(9:Int)))) || (decide ((bAt qHo qHn)=(10:Int)))) || (decide ((bAt qHo qHn)=(13:Int))))) then (
  gd (qAf (qHn+(1:Int))) <|
  some (.inl (qHn+(1:Int))))
 else (
  some (.inr qHn))
def zaj_p0 (qHo:BA) (qHn:Int):Option Int :=
 qAw (fun x:Int=>qFx qHo x) qHn
def zaj_s (r_:json_reader):Option json_reader :=
 (zaj_p0 r_.text r_.at_).bind fun o2 =>
 some {r_ with at_:=o2:json_reader}
def zaj_G:Nat→Option CQ:=tblQ []
def qG2:=(qEr 82 (qAa dS (qAa dZ (qAa dZ (qAa (dO 1) (qAa (dO 2) (qAa (dBsl 3) (qAa dS (qAa dZ (qAa dZ dNil))))))))))
def zDJP2:=(qAa (dView .node) (qAa (dView .i64) (qAa (dBag [.map] 107) dNil)))
def zaj_d0:=(dQS (qAa (dSO 0 (dH 0 0)) dNil) (qAa qG2 zDJP2))
def zaj_l0:SubQ:=mkL zaj_d0 (fun x=>zaj_p0 x.2.1.1 x.2.1.2.1) fun x r R kn kx kr=>kx 0 ⟨[],[],[.cells 82 [.vS x.2.1.1,.vI r,.vI x.2.1.2.2.1,.own 1,.own 2,.bsl 3,.vS x.2.1.2.2.2.2.2.2.1,.vI x.2.1.2.2.2.2.2.2.2.1,.vI x.2.1.2.2.2.2.2.2.2.2.1],.view .node x.2.2.1,.view .i64 x.2.2.2.1,.bag [.map] 107 x.2.2.2.2.1]⟩
def zaj_L:Nat→SubQ:=tblL [(0,zaj_l0)]
theorem zaj_sub0:qA0 zaj_L zaj_G 4 2 67 0 zaj_b0:=qAp (show zaj_L 0=zaj_l0 from by kernel_rfl) fun x R kn kx kr=>qAm (step:=fun y=>qFx x.2.1.1 y) (enc:=fun (y:Int)=>zaj_d0.e (x.1,((x.2.1.1,y,x.2.1.2.2),x.2.2))) (fun y=>by kernel_rfl) (fun y ki=>by simp only [qFx,-eq_self,qAc,qAe,obA,obS,slL,slR,qAd]; kernel_rfl) x.2.1.2.1
def zaj_c:CS:=mkC (qAa (dVC (dCO (dH 0 0))) dNil) (qAa qG2 zDJP2) (fun x y=>zaj_s (⟨y.1.1,y.1.2.1,y.1.2.2.1,y.2.1,y.2.2.1,y.2.2.2.1,y.1.2.2.2.2.2.2.1,y.1.2.2.2.2.2.2.2.1,y.1.2.2.2.2.2.2.2.2.1⟩:json_reader)) (fun x y r=>.tup []) fun x y r=>[.cells 82 [.vS r.text,.vI r.at_,.vI r.state,.own 1,.own 2,.bsl 3,.vS r.key,.vI r.code,.vI r.bad],.view .node y.2.1,.view .i64 y.2.2.1,.bag [.map] 107 r.names]
theorem zaj_val:qAj Tryz.prog 59 zaj_c:=vl1 zaj_q [] 67 2 4 (show qAu zaj_L zaj_G 4 2 67 [(0,zaj_b0)] from ⟨zaj_sub0,tV⟩) (fun f C h=>by cases h) fun x y=>by
 simp only [zaj_s,-eq_self,qAc,qAe,obA,obS,slL,slR,qAd];kernel_rfl
def zaj_w:CQ:=qBh [(0,some 3,some (.node,70)),(0,some 4,some (.i64,3)),(0,some 5,some ((.bag [.map]),107))] (qBs [true,false,false,true] zaj_c)
theorem zaj_ok:qAg Tryz.prog 59 zaj_w:=qAs zaj_val
def zan_q:IQ:=(.seq (rg 2 [oP 2 (.mv (vC 0))]) (.seq (.seq (.reg 12 (some [0,1,2,3,4,5,6,7,8,9]) (rF 3 t0 1++rF 7 t0 0++[oP 11 (.lenS t10),oP 12 (.bi .lss t6 t11)])) (.cond t12 (.seq (.reg 2 (some [0,1,2,3,4,5,6,7,8,9]) (rF 13 t0 0++rF 17 t0 1++[oP 21 (.index t16 t20),oM 2 t21])) (.cn [2] .ret)) .skip)) (.seq (rg 2 [oP 2 (.mv (vC 0))]) (.cn [2] .ret))))
def zan_s (r_:json_reader):Option Int :=
 bif decide (r_.at_<(r_.text.size:Int)) then (
  gd (0≤r_.at_∧r_.at_<r_.text.size) <|
  some (bAt r_.text r_.at_))
 else (
  some (0:Int))
def zan_c:CS:=mkC (qAa (dVC (dCO (dH 0 0))) dNil) (qAa qG2 zDJP2) (fun x y=>zan_s (⟨y.1.1,y.1.2.1,y.1.2.2.1,y.2.1,y.2.2.1,y.2.2.2.1,y.1.2.2.2.2.2.2.1,y.1.2.2.2.2.2.2.2.1,y.1.2.2.2.2.2.2.2.2.1⟩:json_reader)) (fun x y r=>.c (.o (.val (.int .u8 r)))) fun x y r=>[.cells 82 [.vS y.1.1,.vI y.1.2.1,.vI y.1.2.2.1,.own 1,.own 2,.bsl 3,.vS y.1.2.2.2.2.2.2.1,.vI y.1.2.2.2.2.2.2.2.1,.vI y.1.2.2.2.2.2.2.2.2.1],.view .node y.2.1,.view .i64 y.2.2.1,.bag [.map] 107 y.2.2.2.1]
theorem zan_val:qAj Tryz.prog 69 zan_c:=vl0 zan_q [.tmp 2] 22 3 4 [] trivial fun x y=>by
 simp only [zan_s,-eq_self,qAc,qAe,obA,obS,slL,slR,qAd];kernel_rfl
def zan_w:CQ:=qBh [(0,some 3,some (.node,70)),(0,some 4,some (.i64,3)),(0,some 5,some ((.bag [.map]),107))] (qBs [true,false,false,true] zan_c)
theorem zan_ok:qAg Tryz.prog 69 zan_w:=qAs zan_val
def zal_q:IQ:=(.seq (rg 6 [oP 6 (.mv vF)]) (.seq (rg 0 ([oM 7 t0,oM 8 t0,oM 9 t1,oM 10 t2]++rS 11 t7 7 t9++rS 13 t8 8 t10)) (.seq (rg 6 [oP 6 (.mv vF)]) (.cn [6] .ret))))
def zal_s (r_:json_reader) (code at_:Int):Option (json_reader × Bool) :=
 some ({r_ with code:=code,bad:=at_:json_reader},false)
def zal_c:CS:=mkC (qAa (dVC (dCO (dH 0 0))) (qAa (dVC (dCO dZ)) (qAa (dVC (dCO dZ)) dNil))) (qAa qG2 zDJP2) (fun x y=>zal_s (⟨y.1.1,y.1.2.1,y.1.2.2.1,y.2.1,y.2.2.1,y.2.2.2.1,y.1.2.2.2.2.2.2.1,y.1.2.2.2.2.2.2.2.1,y.1.2.2.2.2.2.2.2.2.1⟩:json_reader) x.2.1 x.2.2.1) (fun x y r=>.c (.o (.vB r.2))) fun x y r=>[.cells 82 [.vS r.1.text,.vI r.1.at_,.vI r.1.state,.own 1,.own 2,.bsl 3,.vS r.1.key,.vI r.1.code,.vI r.1.bad],.view .node y.2.1,.view .i64 y.2.2.1,.bag [.map] 107 r.1.names]
theorem zal_val:qAj Tryz.prog 92 zal_c:=vl0 zal_q [.tmp 6] 15 7 4 [] trivial fun x y=>by
 simp only [zal_s,-eq_self,qAc,qAe,obA,obS,slL,slR,qAd];kernel_rfl
def zal_w:CQ:=qBh [(0,some 3,some (.node,70)),(0,some 4,some (.i64,3)),(0,some 5,some ((.bag [.map]),107))] (qBs [true,false,false,true] zal_c)
theorem zal_ok:qAg Tryz.prog 92 zal_w:=qAs zal_val
def zao_q:IQ:=(.seq (rg 2 [oP 2 (.mv vF)]) (.seq (rg 2 ([oM 3 t0]++rF 4 t0 1++[oP 8 (.call 92 [t3,(vI 31),t7]),oM 2 t8])) (.cn [2] .ret)))
def zao_s (r_:json_reader):Option (json_reader × Bool) :=
 (zal_s r_ (31:Int) r_.at_).bind fun r2 =>
 some ({r2.1 with out:=r_.out,open_:=r_.open_:json_reader},r2.2)
def zao_c:CS:=mkC (qAa (dVC (dCO (dH 0 0))) dNil) (qAa qG2 zDJP2) (fun x y=>zao_s (⟨y.1.1,y.1.2.1,y.1.2.2.1,y.2.1,y.2.2.1,y.2.2.2.1,y.1.2.2.2.2.2.2.1,y.1.2.2.2.2.2.2.2.1,y.1.2.2.2.2.2.2.2.2.1⟩:json_reader)) (fun x y r=>.c (.o (.vB r.2))) fun x y r=>[.cells 82 [.vS r.1.text,.vI r.1.at_,.vI r.1.state,.own 1,.own 2,.bsl 3,.vS r.1.key,.vI r.1.code,.vI r.1.bad],.view .node y.2.1,.view .i64 y.2.2.1,.bag [.map] 107 r.1.names]
theorem zao_val:qAj Tryz.prog 72 zao_c:=vl0 zao_q [.tmp 2] 9 3 4 [(92,zal_w)] ⟨zal_ok,tV⟩ fun x y=>by
 simp only [zao_s,-eq_self,qAc,qAe,obA,obS,slL,slR,qAd];kernel_rfl
def zao_w:CQ:=qBh [(0,some 3,some (.node,70)),(0,some 4,some (.i64,3)),(0,some 5,some ((.bag [.map]),107))] (qBs [true,false,false,true] zao_c)
theorem zao_ok:qAg Tryz.prog 72 zao_w:=qAs zao_val
def zah_q:IQ:=(.seq (rg 3 [oP 2 (.mv (.v (.int .i32 0))),oP 3 (.mv vF)]) (.seq (.block 0 (.seq (rg 4 [oM 5 t0,oP 6 (.bi .geq t5 (vC 48)),oM 7 t6,oF 8 (.mv t0) 7,oF 9 (.bi .leq t8 (vC 57)) 7,oP 10 (.pick t7 t9 vF),oM 4 t10]) (.cond t4 (.seq (rg 3 [oM 11 t0,oP 12 (.bi .sub t11 (vC 48)),oP 13 (.conv false .i32 t12),oM 2 t13,oP 3 (.mv vT)]) (.cn [2,3] .ret)) (.seq (rg 14 [oM 15 t0,oP 16 (.bi .geq t15 (vC 97)),oM 17 t16,oF 18 (.mv t0) 17,oF 19 (.bi .leq t18 (vC 102)) 17,oP 20 (.pick t17 t19 vF),oM 14 t20]) (.cond t14 (.seq (rg 3 [oM 21 t0,oP 22 (.bi .sub t21 (vC 97)),oP 23 (.conv false .i32 t22),oP 24 (.bi .add t23 (.v (.int .i32 10))),oM 2 t24,oP 3 (.mv vT)]) (.cn [2,3] .ret)) (.seq (rg 25 [oM 26 t0,oP 27 (.bi .geq t26 (vC 65)),oM 28 t27,oF 29 (.mv t0) 28,oF 30 (.bi .leq t29 (vC 70)) 28,oP 31 (.pick t28 t30 vF),oM 25 t31]) (.cond t25 (.seq (rg 3 [oM 32 t0,oP 33 (.bi .sub t32 (vC 65)),oP 34 (.conv false .i32 t33),oP 35 (.bi .add t34 (.v (.int .i32 10))),oM 2 t35,oP 3 (.mv vT)]) (.cn [2,3] .ret)) .skip))))))) (.seq (rg 3 [oP 2 (.mv (.v (.int .i32 0))),oP 3 (.mv vF)]) (.cn [2,3] .ret))))
def zah_s (c:Int):Option (Int × Bool) :=
 bif ((decide ((48:Int)≤c)) && (decide (c≤(57:Int)))) then (
  gd (qCu ((c - (48:Int)) % 256)) <|
  some (((c - (48:Int)) % 256),true))
 else (
  bif ((decide ((97:Int)≤c)) && (decide (c≤(102:Int)))) then (
   gd (qCu ((c - (97:Int)) % 256)) <|
   gd (qCu (((c - (97:Int)) % 256)+(10:Int))) <|
   some ((((c - (97:Int)) % 256)+(10:Int)),true))
  else (
   bif ((decide ((65:Int)≤c)) && (decide (c≤(70:Int)))) then (
    gd (qCu ((c - (65:Int)) % 256)) <|
    gd (qCu (((c - (65:Int)) % 256)+(10:Int))) <|
    some ((((c - (65:Int)) % 256)+(10:Int)),true))
   else (
    some ((0:Int),false))))
def zah_c:CS:=mkC (qAa (dVC (dCO (dI .u8))) dNil) dNil (fun x y=>zah_s x.1) (fun x y r=>.tup [.o (.val (.int .i32 r.1)),.o (.vB r.2)]) fun x y r=>[]
theorem zah_val:qAj Tryz.prog 130 zah_c:=vl0 zah_q [.tmp 2,.tmp 3] 36 4 0 [] trivial fun x y=>by
 simp only [zah_s,-eq_self,qAc,qAe,obA,obS,slL,slR,qAd];kernel_rfl
def zah_w:CQ:=qCl [] zah_c
theorem zah_ok:qAg Tryz.prog 130 zah_w:=qAn zah_val
def zat_b1:IQ:=(.join [] [0,1,2,8,10,12] (.cond t40 (.seq (rg 7 [oM 75 t0,oM 76 t1,oP 77 (.call 92 [t75,(vI 33),t76]),oP 6 (.mv (.v (.int .i32 0))),oM 7 t77]) (.cn [6,7] .ret)) .skip))
def zat_b0:IQ:=(.loop [0,1,2,8,12] (.seq (rg 13 [oP 13 (.bi .lss t12 (vI 4))]) (.seq (.cond t13 .skip (.cn [8] (.exit 0))) (.seq (.block 1 (.seq (rg 9 [oM 14 t12,oM 9 t14]) (.seq (.seq (.reg 24 (some [0,1,2,3,4,5,6,7,8,9]) (rF 15 t0 1++rF 19 t0 0++[oP 23 (.lenS t22),oP 24 (.bi .eql t18 t23)])) (.cond t24 (.seq (rg 7 [oM 25 t0,oP 26 (.call 72 [t25]),oP 6 (.mv (.v (.int .i32 0))),oM 7 t26]) (.cn [6,7] .ret)) .skip)) (.seq (.reg 11 (some [0,1,2,3,4,5,6,7,8,9,10,11,12,13,14]) (rF 28 t0 0++rF 32 t0 1++[oP 36 (.index t31 t35),oP 37 (.call 130 [t36]),oM 27 t37,oP 38 (.extract t27 0),oP 39 (.extract t27 1),oM 10 t38,oM 11 t39])) (.seq (.block 2 (.seq (.seq (rg 40 [oM 41 t11,oP 42 (.un .not t41),oM 40 t42]) (.cond t40 .skip (.seq (rg 40 [oM 43 t9,oP 44 (.bi .eql t43 (vI 0)),oM 45 t44,oF 46 (.mv t2) 45,oP 47 (.pick t45 t46 vF),oM 48 t47,oF 49 (.mv t10) 48,oF 50 (.bi .neq t49 (.v (.int .i32 13))) 48,oP 51 (.pick t48 t50 vF),oM 40 t51]) (.cond t40 .skip (.seq (rg 40 [oM 52 t9,oP 53 (.bi .eql t52 (vI 1)),oM 54 t53,oF 55 (.mv t2) 54,oP 56 (.pick t54 t55 vF),oM 57 t56,oF 58 (.mv t10) 57,oF 59 (.bi .lss t58 (.v (.int .i32 12))) 57,oP 60 (.pick t57 t59 vF),oM 40 t60]) (.cond t40 .skip (rg 40 [oM 61 t9,oP 62 (.bi .eql t61 (vI 1)),oM 63 t62,oF 64 (.mv t2) 63,oF 65 (.un .not t64) 63,oP 66 (.pick t63 t65 vF),oM 67 t66,oF 68 (.mv t8) 67,oF 69 (.bi .eql t68 (.v (.int .i32 13))) 67,oP 70 (.pick t67 t69 vF),oM 71 t70,oF 72 (.mv t10) 71,oF 73 (.bi .geq t72 (.v (.int .i32 12))) 71,oP 74 (.pick t71 t73 vF),oM 40 t74]))))))) (.cn [0,1,2,8,10,12,40] (.sub 1 zat_b1)))) (.seq (rg 8 [oM 78 t8,oP 79 (.bi .shl t78 (.v (.int .u64 4))),oM 80 t10,oP 81 (.bi .or t79 t80),oM 8 t81]) (rg 0 (rF 82 t0 1++[oP 86 (.bi .add t85 (vI 1))]++rS 87 t82 1 t86)))))))) (rg 12 [oP 89 (.bi .add t12 (vI 1)),oM 12 t89])))))
def zat_q:IQ:=(.seq (rg 7 [oP 6 (.mv (.v (.int .i32 0))),oP 7 (.mv vF)]) (.seq (rg 8 [oP 8 (.mv (.v (.int .i32 0)))]) (.seq (.seq (rg 12 [oP 12 (.mv (vI 0))]) (.block 0 (.cn [0,1,2,8,12] (.sub 0 zat_b0)))) (.seq (rg 7 [oM 90 t8,oM 6 t90,oP 7 (.mv vT)]) (.cn [6,7] .ret)))))
def zat_p1 (from_:Int) (x40_:Bool) (qHo:BA) (qHn qHw:Int) (qH2:BA) (qHx qH1:Int) (qH3:List Eng.Node) (qH0:List Int) (qHv:qCp):Option ((Int × Bool × BA × Int × Int × BA × Int × Int × qCp) ⊕ Unit) :=
 bif x40_ then (
  (zal_s (⟨qHo,qHn,qHw,qH3,qH0,qHv,qH2,qHx,qH1⟩:json_reader) (33:Int) from_).bind fun r23 =>
  some (.inl ((0:Int),r23.2,r23.1.text,r23.1.at_,r23.1.state,r23.1.key,r23.1.code,r23.1.bad,r23.1.names)))
 else (
  some (.inr ()))
def qCd (from_:Int) (low:Bool) (u x12_:Int) (qHo:BA) (qHn qHw:Int) (qH2:BA) (qHx qH1:Int) (qH3:List Eng.Node) (qH0:List Int) (qHv:qCp):Option ((Int × Int × Int) ⊕ ((Int × Bool × BA × Int × Int × BA × Int × Int × qCp) ⊕ (Int × Int))) :=
 bif decide (x12_<(4:Int)) then (
  bif decide (qHn=(qHo.size:Int)) then (
   (zao_s (⟨qHo,qHn,qHw,qH3,qH0,qHv,qH2,qHx,qH1⟩:json_reader)).bind fun r21 =>
   some (.inr (.inl ((0:Int),r21.2,r21.1.text,r21.1.at_,r21.1.state,r21.1.key,r21.1.code,r21.1.bad,r21.1.names))))
  else (
   gd (0≤qHn∧qHn<qHo.size) <|
   (zah_s (bAt qHo qHn)).bind fun r22 =>
   bif (!r22.2) then (
    (zat_p1 from_ (!r22.2) qHo qHn qHw qH2 qHx qH1 qH3 qH0 qHv).bind fun o24=>(Sum.elim (fun (o24_0:Int × Bool × BA × Int × Int × BA × Int × Int × qCp) =>
     some (.inr (.inl (o24_0.1,o24_0.2.1,o24_0.2.2.1,o24_0.2.2.2.1,o24_0.2.2.2.2.1,o24_0.2.2.2.2.2.1,o24_0.2.2.2.2.2.2.1,o24_0.2.2.2.2.2.2.2.1,o24_0.2.2.2.2.2.2.2.2)))) (fun (o24_1:Unit) =>
     gd (0≤(4:Int)) <|
     gd (qCu (u*16)) <|
     gd (qAf (qHn+(1:Int))) <|
     gd (qAf (x12_+(1:Int))) <|
     some (.inl ((qBy .i32 (u*16) r22.1),(x12_+(1:Int)),(qHn+(1:Int)))))) o24)
   else (
    bif (((decide (x12_=(0:Int))) && low) && (!decide (r22.1=(13:Int)))) then (
     (zat_p1 from_ (((decide (x12_=(0:Int))) && low) && (!decide (r22.1=(13:Int)))) qHo qHn qHw qH2 qHx qH1 qH3 qH0 qHv).bind fun o25=>(Sum.elim (fun (o25_0:Int × Bool × BA × Int × Int × BA × Int × Int × qCp) =>
      some (.inr (.inl (o25_0.1,o25_0.2.1,o25_0.2.2.1,o25_0.2.2.2.1,o25_0.2.2.2.2.1,o25_0.2.2.2.2.2.1,o25_0.2.2.2.2.2.2.1,o25_0.2.2.2.2.2.2.2.1,o25_0.2.2.2.2.2.2.2.2)))) (fun (o25_1:Unit) =>
      gd (0≤(4:Int)) <|
      gd (qCu (u*16)) <|
      gd (qAf (qHn+(1:Int))) <|
      gd (qAf (x12_+(1:Int))) <|
      some (.inl ((qBy .i32 (u*16) r22.1),(x12_+(1:Int)),(qHn+(1:Int)))))) o25)
    else (
     bif (((decide (x12_=(1:Int))) && low) && (decide (r22.1<(12:Int)))) then (
      (zat_p1 from_ (((decide (x12_=(1:Int))) && low) && (decide (r22.1<(12:Int)))) qHo qHn qHw qH2 qHx qH1 qH3 qH0 qHv).bind fun o26=>(Sum.elim (fun (o26_0:Int × Bool × BA × Int × Int × BA × Int × Int × qCp) =>
       some (.inr (.inl (o26_0.1,o26_0.2.1,o26_0.2.2.1,o26_0.2.2.2.1,o26_0.2.2.2.2.1,o26_0.2.2.2.2.2.1,o26_0.2.2.2.2.2.2.1,o26_0.2.2.2.2.2.2.2.1,o26_0.2.2.2.2.2.2.2.2)))) (fun (o26_1:Unit) =>
       gd (0≤(4:Int)) <|
       gd (qCu (u*16)) <|
       gd (qAf (qHn+(1:Int))) <|
       gd (qAf (x12_+(1:Int))) <|
       some (.inl ((qBy .i32 (u*16) r22.1),(x12_+(1:Int)),(qHn+(1:Int)))))) o26)
     else (
      (zat_p1 from_ ((((decide (x12_=(1:Int))) && (!low)) && (decide (u=(13:Int)))) && (decide ((12:Int)≤r22.1))) qHo qHn qHw qH2 qHx qH1 qH3 qH0 qHv).bind fun o27=>(Sum.elim (fun (o27_0:Int × Bool × BA × Int × Int × BA × Int × Int × qCp) =>
       some (.inr (.inl (o27_0.1,o27_0.2.1,o27_0.2.2.1,o27_0.2.2.2.1,o27_0.2.2.2.2.1,o27_0.2.2.2.2.2.1,o27_0.2.2.2.2.2.2.1,o27_0.2.2.2.2.2.2.2.1,o27_0.2.2.2.2.2.2.2.2)))) (fun (o27_1:Unit) =>
       gd (0≤(4:Int)) <|
       gd (qCu (u*16)) <|
       gd (qAf (qHn+(1:Int))) <|
       gd (qAf (x12_+(1:Int))) <|
       some (.inl ((qBy .i32 (u*16) r22.1),(x12_+(1:Int)),(qHn+(1:Int)))))) o27)))))
 else (
  some (.inr (.inr (u,qHn))))
def zat_p0 (from_:Int) (low:Bool) (u x12_:Int) (qHo:BA) (qHn qHw:Int) (qH2:BA) (qHx qH1:Int) (qH3:List Eng.Node) (qH0:List Int) (qHv:qCp):Option ((Int × Bool × BA × Int × Int × BA × Int × Int × qCp) ⊕ (Int × Int)) :=
 qAw (fun x:(Int × Int × Int)=>qCd from_ low x.1 x.2.1 qHo x.2.2 qHw qH2 qHx qH1 qH3 qH0 qHv) (u,x12_,qHn)
def zat_s (r_:json_reader) (from_:Int) (low:Bool):Option (json_reader × Int × Bool) :=
 (zat_p0 from_ low (0:Int) (0:Int) r_.text r_.at_ r_.state r_.key r_.code r_.bad r_.out r_.open_ r_.names).bind fun o28=>(Sum.elim (fun (o28_0:Int × Bool × BA × Int × Int × BA × Int × Int × qCp) =>
  some ((⟨o28_0.2.2.1,o28_0.2.2.2.1,o28_0.2.2.2.2.1,r_.out,r_.open_,o28_0.2.2.2.2.2.2.2.2,o28_0.2.2.2.2.2.1,o28_0.2.2.2.2.2.2.1,o28_0.2.2.2.2.2.2.2.1⟩:json_reader),o28_0.1,o28_0.2.1)) (fun (o28_1:Int × Int) =>
  some ({r_ with at_:=o28_1.2:json_reader},o28_1.1,true))) o28
def zat_G:Nat→Option CQ:=tblQ [(72,zao_w),(130,zah_w),(92,zal_w)]
def zat_d1:=(dQS (qAa (dSO 0 (dH 0 0)) (qAa (dSO 1 dZ) (qAa (dSO 2 dB) (qAa (dSO 8 (dI .i32)) (qAa (dSO 10 (dI .i32)) (qAa (dSO 12 dZ) (qAa (dSO 40 dB) dNil))))))) (qAa qG2 zDJP2))
def zat_l1:SubQ:=mkL zat_d1 (fun x=>zat_p1 x.1.2.1 x.1.2.2.2.2.2.2.1 x.2.1.1 x.2.1.2.1 x.2.1.2.2.1 x.2.1.2.2.2.2.2.2.1 x.2.1.2.2.2.2.2.2.2.1 x.2.1.2.2.2.2.2.2.2.2.1 x.2.2.1 x.2.2.2.1 x.2.2.2.2.1) fun x r R kn kx kr=>(Sum.elim (fun (r_0:Int × Bool × BA × Int × Int × BA × Int × Int × qCp)=>kr ⟨[(6,[],.c (.o (.val (.int .i32 r_0.1)))),sL 7 (.vB r_0.2.1)],[],[.cells 82 [.vS r_0.2.2.1,.vI r_0.2.2.2.1,.vI r_0.2.2.2.2.1,.own 1,.own 2,.bsl 3,.vS r_0.2.2.2.2.2.1,.vI r_0.2.2.2.2.2.2.1,.vI r_0.2.2.2.2.2.2.2.1],.view .node x.2.2.1,.view .i64 x.2.2.2.1,.bag [.map] 107 r_0.2.2.2.2.2.2.2.2]⟩) (fun (r_1:Unit)=>kn ⟨[sL 0 (.hd 0 0),sL 1 (.vI x.1.2.1),sL 2 (.vB x.1.2.2.1),(8,[],.c (.o (.val (.int .i32 x.1.2.2.2.1)))),(10,[],.c (.o (.val (.int .i32 x.1.2.2.2.2.1)))),sL 12 (.vI x.1.2.2.2.2.2.1)],[],[.cells 82 [.vS x.2.1.1,.vI x.2.1.2.1,.vI x.2.1.2.2.1,.own 1,.own 2,.bsl 3,.vS x.2.1.2.2.2.2.2.2.1,.vI x.2.1.2.2.2.2.2.2.2.1,.vI x.2.1.2.2.2.2.2.2.2.2.1],.view .node x.2.2.1,.view .i64 x.2.2.2.1,.bag [.map] 107 x.2.2.2.2.1]⟩)) r
def zat_d0:=(dQS (qAa (dSO 0 (dH 0 0)) (qAa (dSO 1 dZ) (qAa (dSO 2 dB) (qAa (dSO 8 (dI .i32)) (qAa (dSO 12 dZ) dNil))))) (qAa qG2 zDJP2))
def zat_l0:SubQ:=mkL zat_d0 (fun x=>zat_p0 x.1.2.1 x.1.2.2.1 x.1.2.2.2.1 x.1.2.2.2.2.1 x.2.1.1 x.2.1.2.1 x.2.1.2.2.1 x.2.1.2.2.2.2.2.2.1 x.2.1.2.2.2.2.2.2.2.1 x.2.1.2.2.2.2.2.2.2.2.1 x.2.2.1 x.2.2.2.1 x.2.2.2.2.1) fun x r R kn kx kr=>(Sum.elim (fun (r_0:Int × Bool × BA × Int × Int × BA × Int × Int × qCp)=>kr ⟨[(6,[],.c (.o (.val (.int .i32 r_0.1)))),sL 7 (.vB r_0.2.1)],[],[.cells 82 [.vS r_0.2.2.1,.vI r_0.2.2.2.1,.vI r_0.2.2.2.2.1,.own 1,.own 2,.bsl 3,.vS r_0.2.2.2.2.2.1,.vI r_0.2.2.2.2.2.2.1,.vI r_0.2.2.2.2.2.2.2.1],.view .node x.2.2.1,.view .i64 x.2.2.2.1,.bag [.map] 107 r_0.2.2.2.2.2.2.2.2]⟩) (fun (r_1:Int × Int)=>kx 0 ⟨[(8,[],.c (.o (.val (.int .i32 r_1.1))))],[],[.cells 82 [.vS x.2.1.1,.vI r_1.2,.vI x.2.1.2.2.1,.own 1,.own 2,.bsl 3,.vS x.2.1.2.2.2.2.2.2.1,.vI x.2.1.2.2.2.2.2.2.2.1,.vI x.2.1.2.2.2.2.2.2.2.2.1],.view .node x.2.2.1,.view .i64 x.2.2.2.1,.bag [.map] 107 x.2.2.2.2.1]⟩)) r
def zat_L:Nat→SubQ:=tblL [(1,zat_l1),(0,zat_l0)]
theorem zat_sub1:qA0 zat_L zat_G 4 13 91 1 zat_b1:=qAp (show zat_L 1=zat_l1 from by kernel_rfl) fun x R kn kx kr=>by
 simp only [zat_p1,-eq_self,qAc,qAe,obA,obS,slL,slR,qAd];kernel_rfl
theorem zat_sub0:qA0 zat_L zat_G 4 13 91 0 zat_b0:=qAp (show zat_L 0=zat_l0 from by kernel_rfl) fun x R kn kx kr=>qAm (step:=fun y=>qCd x.1.2.1 x.1.2.2.1 y.1 y.2.1 x.2.1.1 y.2.2 x.2.1.2.2.1 x.2.1.2.2.2.2.2.2.1 x.2.1.2.2.2.2.2.2.2.1 x.2.1.2.2.2.2.2.2.2.2.1 x.2.2.1 x.2.2.2.1 x.2.2.2.2.1) (enc:=fun (y:Int × Int × Int)=>zat_d0.e ((x.1.1,x.1.2.1,x.1.2.2.1,y.1,y.2.1,x.1.2.2.2.2.2),((x.2.1.1,y.2.2,x.2.1.2.2),x.2.2))) (fun y=>by kernel_rfl) (fun y ki=>by simp only [qCd,-eq_self,qAc,qAe,obA,obS,slL,slR,qAd]; kernel_rfl) (x.1.2.2.2.1,x.1.2.2.2.2.1,x.2.1.2.1)
def zat_c:CS:=mkC (qAa (dVC (dCO (dH 0 0))) (qAa (dVC (dCO dZ)) (qAa (dVC (dCO dB)) dNil))) (qAa qG2 zDJP2) (fun x y=>zat_s (⟨y.1.1,y.1.2.1,y.1.2.2.1,y.2.1,y.2.2.1,y.2.2.2.1,y.1.2.2.2.2.2.2.1,y.1.2.2.2.2.2.2.2.1,y.1.2.2.2.2.2.2.2.2.1⟩:json_reader) x.2.1 x.2.2.1) (fun x y r=>.tup [.o (.val (.int .i32 r.2.1)),.o (.vB r.2.2)]) fun x y r=>[.cells 82 [.vS r.1.text,.vI r.1.at_,.vI r.1.state,.own 1,.own 2,.bsl 3,.vS r.1.key,.vI r.1.code,.vI r.1.bad],.view .node y.2.1,.view .i64 y.2.2.1,.bag [.map] 107 r.1.names]
theorem zat_val:qAj Tryz.prog 128 zat_c:=vl1 zat_q [.tmp 6,.tmp 7] 91 13 4 (show qAu zat_L zat_G 4 13 91 [(0,zat_b0),(1,zat_b1)] from ⟨zat_sub0,zat_sub1,tV⟩) (qAl ⟨zao_ok,zah_ok,zal_ok,tV⟩) fun x y=>by
 simp only [zat_s,-eq_self,qAc,qAe,obA,obS,slL,slR,qAd];kernel_rfl
def zat_w:CQ:=qBh [(0,some 3,some (.node,70)),(0,some 4,some (.i64,3)),(0,some 5,some ((.bag [.map]),107))] (qBs [true,false,false,true] zat_c)
theorem zat_ok:qAg Tryz.prog 128 zat_w:=qAs zat_val
def zap_b0:IQ:=(.loop [0,1,6,30,31,32] (.seq (rg 33 [oP 33 (.bi .lss t32 t31)]) (.seq (.cond t33 .skip (.cn [0,1,6] (.exit 0))) (.seq (.block 1 (.seq (rg 9 [oP 34 (.iaddr 1 t30 t32),oP 35 (.load none t34),oM 9 t35]) (.seq (.seq (.reg 45 (some [0,1,2,3,4,5,6,7,8,9]) (rF 36 t0 1++rF 40 t0 0++[oP 44 (.lenS t43),oP 45 (.bi .eql t39 t44)])) (.cond t45 (.seq (rg 5 [oM 46 t0,oP 47 (.call 72 [t46]),oP 4 (.mv (.v (.int .i32 0))),oM 5 t47]) (.cn [4,5] .ret)) .skip)) (.seq (.seq (.reg 58 (some [0,1,2,3,4,5,6,7,8,9,10]) (rF 48 t0 0++rF 52 t0 1++[oP 56 (.index t51 t55),oM 57 t9,oP 58 (.bi .neq t56 t57)])) (.cond t58 (.seq (rg 5 [oM 59 t0,oM 60 t1,oP 61 (.call 92 [t59,(vI 33),t60]),oP 4 (.mv (.v (.int .i32 0))),oM 5 t61]) (.cn [4,5] .ret)) .skip)) (rg 0 (rF 62 t0 1++[oP 66 (.bi .add t65 (vI 1))]++rS 67 t62 1 t66)))))) (rg 32 [oP 69 (.bi .add t32 (vI 1)),oM 32 t69])))))
def zap_q:IQ:=(.seq (rg 5 [oP 4 (.mv (.v (.int .i32 0))),oP 5 (.mv vF)]) (.seq (rg 7 [oM 12 t0,oM 13 t1,oP 14 (.call 128 [t12,t13,vF]),oM 11 t14,oP 15 (.extract t11 0),oP 16 (.extract t11 1),oM 6 t15,oM 7 t16]) (.seq (.seq (rg 26 [oM 17 t7,oP 18 (.un .not t17),oM 19 t18,oE 20 (.mv t6) 19,oE 21 (.bi .lss t20 (.v (.int .i32 55296))) 19,oP 22 (.pick t19 vT t21),oM 23 t22,oE 24 (.mv t6) 23,oE 25 (.bi .gtr t24 (.v (.int .i32 57343))) 23,oP 26 (.pick t23 vT t25)]) (.cond t26 (.seq (rg 5 [oM 27 t6,oM 28 t7,oM 4 t27,oM 5 t28]) (.cn [4,5] .ret)) .skip)) (.seq (.seq (rg 32 [oP 29 (.bslice 5 1 2 [.int .u8 0] [(0,(vC 92)),(1,(vC 117))]),oP 30 (.ext .fro [t29]),oP 31 (.len t30),oP 32 (.mv (vI 0))]) (.block 0 (.cn [0,1,6,30,31,32] (.sub 0 zap_b0)))) (.seq (rg 7 [oM 71 t0,oM 72 t1,oP 73 (.call 128 [t71,t72,vT]),oM 70 t73,oP 74 (.extract t70 0),oP 75 (.extract t70 1),oM 10 t74,oM 7 t75]) (.seq (rg 5 [oM 76 t6,oP 77 (.bi .sub t76 (.v (.int .i32 55296))),oP 78 (.bi .shl t77 (.v (.int .u64 10))),oP 79 (.bi .add (.v (.int .i32 65536)) t78),oM 80 t10,oP 81 (.bi .sub t80 (.v (.int .i32 56320))),oP 82 (.bi .add t79 t81),oM 83 t7,oM 4 t82,oM 5 t83]) (.cn [4,5] .ret)))))))
def qC2 (from_ x31_ x32_:Int) (qHo:BA) (qHn qHw:Int) (qH2:BA) (qHx qH1:Int) (qH3:List Eng.Node) (qH0:List Int) (qHv:qCp) (x30_:List Int):Option ((Int × Int) ⊕ ((Int × Bool × BA × Int × Int × BA × Int × Int × qCp) ⊕ Int)) :=
 bif decide (x32_<x31_) then (
  gd (0≤x32_∧x32_<x30_.length) <|
  gd ((Int.toNat x32_)<x30_.length) <|
  bif decide (qHn=(qHo.size:Int)) then (
   (zao_s (⟨qHo,qHn,qHw,qH3,qH0,qHv,qH2,qHx,qH1⟩:json_reader)).bind fun r9 =>
   some (.inr (.inl ((0:Int),r9.2,r9.1.text,r9.1.at_,r9.1.state,r9.1.key,r9.1.code,r9.1.bad,r9.1.names))))
  else (
   gd (0≤qHn∧qHn<qHo.size) <|
   bif (!decide ((bAt qHo qHn)=(x30_.getD (Int.toNat x32_) (ET.dft .u8)))) then (
    (zal_s (⟨qHo,qHn,qHw,qH3,qH0,qHv,qH2,qHx,qH1⟩:json_reader) (33:Int) from_).bind fun r10 =>
    some (.inr (.inl ((0:Int),r10.2,r10.1.text,r10.1.at_,r10.1.state,r10.1.key,r10.1.code,r10.1.bad,r10.1.names))))
   else (
    gd (qAf (qHn+(1:Int))) <|
    gd (qAf (x32_+(1:Int))) <|
    some (.inl ((x32_+(1:Int)),(qHn+(1:Int)))))))
 else (
  some (.inr (.inr qHn)))
def zap_p0 (from_ x31_ x32_:Int) (qHo:BA) (qHn qHw:Int) (qH2:BA) (qHx qH1:Int) (qH3:List Eng.Node) (qH0:List Int) (qHv:qCp) (x30_:List Int):Option ((Int × Bool × BA × Int × Int × BA × Int × Int × qCp) ⊕ Int) :=
 qAw (fun x:(Int × Int)=>qC2 from_ x31_ x.1 qHo x.2 qHw qH2 qHx qH1 qH3 qH0 qHv x30_) (x32_,qHn)
def zap_s (r_:json_reader) (from_:Int):Option (json_reader × Int × Bool) :=
 (zat_s r_ from_ false).bind fun r8 =>
 bif (((!r8.2.2) || (decide (r8.2.1<(55296:Int)))) || (decide ((57343:Int)<r8.2.1))) then (
  some ({r8.1 with out:=r_.out,open_:=r_.open_:json_reader},r8.2.1,r8.2.2))
 else (
  gd (0<([(92:Int),(117:Int)]:List Int).length) <|
  (zap_p0 from_ ([(92:Int),(117:Int)].length:Int) (0:Int) r8.1.text r8.1.at_ r8.1.state r8.1.key r8.1.code r8.1.bad r_.out r_.open_ r8.1.names [(92:Int),(117:Int)]).bind fun o11=>(Sum.elim (fun (o11_0:Int × Bool × BA × Int × Int × BA × Int × Int × qCp) =>
   some ((⟨o11_0.2.2.1,o11_0.2.2.2.1,o11_0.2.2.2.2.1,r_.out,r_.open_,o11_0.2.2.2.2.2.2.2.2,o11_0.2.2.2.2.2.1,o11_0.2.2.2.2.2.2.1,o11_0.2.2.2.2.2.2.2.1⟩:json_reader),o11_0.1,o11_0.2.1)) (fun (o11_1:Int) =>
   (zat_s {r8.1 with at_:=o11_1,out:=r_.out,open_:=r_.open_:json_reader} from_ true).bind fun r12 =>
   gd (qCu (r8.2.1 - (55296:Int))) <|
   gd (0≤(10:Int)) <|
   gd (qCu ((r8.2.1 - (55296:Int))*1024)) <|
   gd (qCu ((65536:Int)+((r8.2.1 - (55296:Int))*1024))) <|
   gd (qCu (r12.2.1 - (56320:Int))) <|
   gd (qCu (((65536:Int)+((r8.2.1 - (55296:Int))*1024))+(r12.2.1 - (56320:Int)))) <|
   some ({r12.1 with out:=r_.out,open_:=r_.open_:json_reader},(((65536:Int)+((r8.2.1 - (55296:Int))*1024))+(r12.2.1 - (56320:Int))),r12.2.2))) o11)
def zap_G:Nat→Option CQ:=tblQ [(128,zat_w),(72,zao_w),(92,zal_w)]
def zap_d0:=(dQS (qAa (dSO 0 (dH 0 0)) (qAa (dSO 1 dZ) (qAa (dSO 6 (dI .i32)) (qAa (dSO 30 (dO 4)) (qAa (dSO 31 dZ) (qAa (dSO 32 dZ) dNil)))))) (qAa qG2 (qAa (dView .node) (qAa (dView .i64) (qAa (dBag [.map] 107) (qAa (dView .u8) dNil))))))
def zap_l0:SubQ:=mkL zap_d0 (fun x=>zap_p0 x.1.2.1 x.1.2.2.2.2.1 x.1.2.2.2.2.2.1 x.2.1.1 x.2.1.2.1 x.2.1.2.2.1 x.2.1.2.2.2.2.2.2.1 x.2.1.2.2.2.2.2.2.2.1 x.2.1.2.2.2.2.2.2.2.2.1 x.2.2.1 x.2.2.2.1 x.2.2.2.2.1 x.2.2.2.2.2.1) fun x r R kn kx kr=>(Sum.elim (fun (r_0:Int × Bool × BA × Int × Int × BA × Int × Int × qCp)=>kr ⟨[(4,[],.c (.o (.val (.int .i32 r_0.1)))),sL 5 (.vB r_0.2.1)],[],[.cells 82 [.vS r_0.2.2.1,.vI r_0.2.2.2.1,.vI r_0.2.2.2.2.1,.own 1,.own 2,.bsl 3,.vS r_0.2.2.2.2.2.1,.vI r_0.2.2.2.2.2.2.1,.vI r_0.2.2.2.2.2.2.2.1],.view .node x.2.2.1,.view .i64 x.2.2.2.1,.bag [.map] 107 r_0.2.2.2.2.2.2.2.2]⟩) (fun (r_1:Int)=>kx 0 ⟨[sL 0 (.hd 0 0),sL 1 (.vI x.1.2.1),(6,[],.c (.o (.val (.int .i32 x.1.2.2.1))))],[],[.cells 82 [.vS x.2.1.1,.vI r_1,.vI x.2.1.2.2.1,.own 1,.own 2,.bsl 3,.vS x.2.1.2.2.2.2.2.2.1,.vI x.2.1.2.2.2.2.2.2.2.1,.vI x.2.1.2.2.2.2.2.2.2.2.1],.view .node x.2.2.1,.view .i64 x.2.2.2.1,.bag [.map] 107 x.2.2.2.2.1]⟩)) r
def zap_L:Nat→SubQ:=tblL [(0,zap_l0)]
theorem zap_sub0:qA0 zap_L zap_G 4 33 84 0 zap_b0:=qAp (show zap_L 0=zap_l0 from by kernel_rfl) fun x R kn kx kr=>qAm (step:=fun y=>qC2 x.1.2.1 x.1.2.2.2.2.1 y.1 x.2.1.1 y.2 x.2.1.2.2.1 x.2.1.2.2.2.2.2.2.1 x.2.1.2.2.2.2.2.2.2.1 x.2.1.2.2.2.2.2.2.2.2.1 x.2.2.1 x.2.2.2.1 x.2.2.2.2.1 x.2.2.2.2.2.1) (enc:=fun (y:Int × Int)=>zap_d0.e ((x.1.1,x.1.2.1,x.1.2.2.1,x.1.2.2.2.1,x.1.2.2.2.2.1,y.1,x.1.2.2.2.2.2.2),((x.2.1.1,y.2,x.2.1.2.2),x.2.2))) (fun y=>by kernel_rfl) (fun y ki=>by simp only [qC2,-eq_self,qAc,qAe,obA,obS,slL,slR,qAd]; kernel_rfl) (x.1.2.2.2.2.2.1,x.2.1.2.1)
def zap_c:CS:=mkC (qAa (dVC (dCO (dH 0 0))) (qAa (dVC (dCO dZ)) dNil)) (qAa qG2 zDJP2) (fun x y=>zap_s (⟨y.1.1,y.1.2.1,y.1.2.2.1,y.2.1,y.2.2.1,y.2.2.2.1,y.1.2.2.2.2.2.2.1,y.1.2.2.2.2.2.2.2.1,y.1.2.2.2.2.2.2.2.2.1⟩:json_reader) x.2.1) (fun x y r=>.tup [.o (.val (.int .i32 r.2.1)),.o (.vB r.2.2)]) fun x y r=>[.cells 82 [.vS r.1.text,.vI r.1.at_,.vI r.1.state,.own 1,.own 2,.bsl 3,.vS r.1.key,.vI r.1.code,.vI r.1.bad],.view .node y.2.1,.view .i64 y.2.2.1,.bag [.map] 107 r.1.names]
theorem zap_val:qAj Tryz.prog 118 zap_c:=vl1 zap_q [.tmp 4,.tmp 5] 84 33 4 (show qAu zap_L zap_G 4 33 84 [(0,zap_b0)] from ⟨zap_sub0,tV⟩) (qAl ⟨zat_ok,zao_ok,zal_ok,tV⟩) fun x y=>by
 simp only [zap_s,-eq_self,qAc,qAe,obA,obS,slL,slR,qAd];kernel_rfl
def zap_w:CQ:=qBh [(0,some 3,some (.node,70)),(0,some 4,some (.i64,3)),(0,some 5,some ((.bag [.map]),107))] (qBs [true,false,false,true] zap_c)
theorem zap_ok:qAg Tryz.prog 118 zap_w:=qAs zap_val
def zak_b0:IQ:=(.loop [0,4,5,57,58] (.seq (rg 59 [oP 59 (.bi .lss t58 (vI 8))]) (.seq (.cond t59 .skip (.cn [0,4] (.exit 1))) (.seq (.block 2 (.seq (rg 0 [oP 60 (.ext (.aidx 2 8) [t57,t58]),oP 7 (.alloc 126 [.int .u8 0,.int .u8 0]),oN (.store 2 t7 t60)]) (.seq (rg 64 [oM 61 t5,oP 62 (.faddr 0 t7),oP 63 (.load none t62),oP 64 (.bi .eql t61 t63)]) (.cond t64 (.seq (rg 0 (rF 65 t0 1++[oP 69 (.bi .add t68 (vI 1))]++rS 70 t65 1 t69)) (.seq (rg 3 [oP 72 (.faddr 1 t7),oP 73 (.load none t72),oP 74 (.conv false .i32 t73),oM 2 t74,oP 3 (.mv vT)]) (.cn [2,3] .ret))) .skip)))) (rg 58 [oP 75 (.bi .add t58 (vI 1)),oM 58 t75])))))
def zak_q:IQ:=(.seq (rg 3 [oP 2 (.mv (.v (.int .i32 0))),oP 3 (.mv vF)]) (.seq (rg 4 (rF 8 t0 1++[oM 4 t11])) (.seq (rg 0 (rF 12 t0 1++[oP 16 (.bi .add t15 (vI 1))]++rS 17 t12 1 t16)) (.seq (rg 5 [oM 19 t0,oP 20 (.call 69 [t19]),oM 5 t20]) (.seq (.block 0 (.seq (.reg 21 (some [0,1,2,3,4,5,6,7,8,9,10]) (rF 22 t0 1++rF 26 t0 0++[oP 30 (.lenS t29),oP 31 (.bi .eql t25 t30),oM 21 t31])) (.cond t21 (.seq (rg 3 [oM 32 t0,oP 33 (.call 72 [t32]),oP 2 (.mv (.v (.int .i32 0))),oM 3 t33]) (.cn [2,3] .ret)) (.seq (rg 34 [oM 35 t5,oP 36 (.bi .eql t35 (vC 117)),oM 34 t36]) (.cond t34 (.seq (rg 0 (rF 37 t0 1++[oP 41 (.bi .add t40 (vI 1))]++rS 42 t37 1 t41)) (.seq (rg 3 [oM 44 t0,oM 45 t4,oP 46 (.call 118 [t44,t45]),oP 47 (.extract t46 0),oP 48 (.extract t46 1),oM 2 t47,oM 3 t48]) (.cn [2,3] .ret))) .skip))))) (.seq (.seq (rg 58 [oP 49 (.build [.int .u8 0,.int .u8 0] [(0,1,(vC 34)),(1,1,(vC 34))]),oP 50 (.build [.int .u8 0,.int .u8 0] [(0,1,(vC 92)),(1,1,(vC 92))]),oP 51 (.build [.int .u8 0,.int .u8 0] [(0,1,(vC 47)),(1,1,(vC 47))]),oP 52 (.build [.int .u8 0,.int .u8 0] [(0,1,(vC 98)),(1,1,(vC 8))]),oP 53 (.build [.int .u8 0,.int .u8 0] [(0,1,(vC 102)),(1,1,(vC 12))]),oP 54 (.build [.int .u8 0,.int .u8 0] [(0,1,(vC 110)),(1,1,(vC 10))]),oP 55 (.build [.int .u8 0,.int .u8 0] [(0,1,(vC 114)),(1,1,(vC 13))]),oP 56 (.build [.int .u8 0,.int .u8 0] [(0,1,(vC 116)),(1,1,(vC 9))]),oP 57 (.build [.int .u8 0,.int .u8 0,.int .u8 0,.int .u8 0,.int .u8 0,.int .u8 0,.int .u8 0,.int .u8 0,.int .u8 0,.int .u8 0,.int .u8 0,.int .u8 0,.int .u8 0,.int .u8 0,.int .u8 0,.int .u8 0] [(0,2,t49),(2,2,t50),(4,2,t51),(6,2,t52),(8,2,t53),(10,2,t54),(12,2,t55),(14,2,t56)]),oP 58 (.mv (vI 0))]) (.block 1 (.cn [0,4,5,57,58] (.sub 0 zak_b0)))) (.seq (rg 3 [oM 76 t0,oM 77 t4,oP 78 (.call 92 [t76,(vI 33),t77]),oP 2 (.mv (.v (.int .i32 0))),oM 3 t78]) (.cn [2,3] .ret))))))))
def qC1 (c x570_ x571_ x572_ x573_ x574_ x575_ x576_ x577_ x578_ x579_ x5710_ x5711_ x5712_ x5713_ x5714_ x5715_ x58_ qHn:Int):Option (Int ⊕ ((Int × Bool × Int) ⊕ Unit)) :=
 bif decide (x58_<(8:Int)) then (
  gd (0≤x58_∧x58_<8) <|
  bif decide (c=(([x570_,x571_,x572_,x573_,x574_,x575_,x576_,x577_,x578_,x579_,x5710_,x5711_,x5712_,x5713_,x5714_,x5715_]:List Int).getD (Int.toNat x58_*2+0) 0)) then (
   gd (qAf (qHn+(1:Int))) <|
   gd (qCu (([x570_,x571_,x572_,x573_,x574_,x575_,x576_,x577_,x578_,x579_,x5710_,x5711_,x5712_,x5713_,x5714_,x5715_]:List Int).getD (Int.toNat x58_*2+1) 0)) <|
   some (.inr (.inl ((([x570_,x571_,x572_,x573_,x574_,x575_,x576_,x577_,x578_,x579_,x5710_,x5711_,x5712_,x5713_,x5714_,x5715_]:List Int).getD (Int.toNat x58_*2+1) 0),true,(qHn+(1:Int))))))
  else (
   gd (qAf (x58_+(1:Int))) <|
   some (.inl (x58_+(1:Int)))))
 else (
  some (.inr (.inr ())))
def zak_p0 (c x570_ x571_ x572_ x573_ x574_ x575_ x576_ x577_ x578_ x579_ x5710_ x5711_ x5712_ x5713_ x5714_ x5715_ x58_ qHn:Int):Option ((Int × Bool × Int) ⊕ Unit) :=
 qAw (fun x:Int=>qC1 c x570_ x571_ x572_ x573_ x574_ x575_ x576_ x577_ x578_ x579_ x5710_ x5711_ x5712_ x5713_ x5714_ x5715_ x qHn) x58_
def zak_s (r_:json_reader):Option (json_reader × Int × Bool) :=
 gd (qAf (r_.at_+(1:Int))) <|
 (zan_s {r_ with at_:=(r_.at_+(1:Int)):json_reader}).bind fun r6 =>
 bif decide ((r_.at_+(1:Int))=(r_.text.size:Int)) then (
  (zao_s {r_ with at_:=(r_.at_+(1:Int)):json_reader}).bind fun r7 =>
  some ({r7.1 with out:=r_.out,open_:=r_.open_:json_reader},(0:Int),r7.2))
 else (
  bif decide (r6=(117:Int)) then (
   gd (qAf ((r_.at_+(1:Int))+(1:Int))) <|
   (zap_s {r_ with at_:=((r_.at_+(1:Int))+(1:Int)):json_reader} r_.at_).bind fun r8 =>
   some ({r8.1 with out:=r_.out,open_:=r_.open_:json_reader},r8.2.1,r8.2.2))
  else (
   (zak_p0 r6 (34:Int) (34:Int) (92:Int) (92:Int) (47:Int) (47:Int) (98:Int) (8:Int) (102:Int) (12:Int) (110:Int) (10:Int) (114:Int) (13:Int) (116:Int) (9:Int) (0:Int) (r_.at_+(1:Int))).bind fun o9=>(Sum.elim (fun (o9_0:Int × Bool × Int) =>
    some ({r_ with at_:=o9_0.2.2:json_reader},o9_0.1,o9_0.2.1)) (fun (o9_1:Unit) =>
    (zal_s {r_ with at_:=(r_.at_+(1:Int)):json_reader} (33:Int) r_.at_).bind fun r10 =>
    some ({r10.1 with out:=r_.out,open_:=r_.open_:json_reader},(0:Int),r10.2))) o9))
def zak_G:Nat→Option CQ:=tblQ [(69,zan_w),(72,zao_w),(118,zap_w),(92,zal_w)]
def zak_d0:=(dQS (qAa (dSO 0 (dH 0 0)) (qAa (dSO 4 dZ) (qAa (dSO 5 (dI .u8)) (qAa (dSl 57 (dVC (dCA (qAa (dI .u8) (qAa (dI .u8) (qAa (dI .u8) (qAa (dI .u8) (qAa (dI .u8) (qAa (dI .u8) (qAa (dI .u8) (qAa (dI .u8) (qAa (dI .u8) (qAa (dI .u8) (qAa (dI .u8) (qAa (dI .u8) (qAa (dI .u8) (qAa (dI .u8) (qAa (dI .u8) (qAa (dI .u8) dNil))))))))))))))))))) (qAa (dSO 58 dZ) dNil))))) (qAa qG2 zDJP2))
def zak_l0:SubQ:=mkL zak_d0 (fun x=>zak_p0 x.1.2.2.1 x.1.2.2.2.1.1 x.1.2.2.2.1.2.1 x.1.2.2.2.1.2.2.1 x.1.2.2.2.1.2.2.2.1 x.1.2.2.2.1.2.2.2.2.1 x.1.2.2.2.1.2.2.2.2.2.1 x.1.2.2.2.1.2.2.2.2.2.2.1 x.1.2.2.2.1.2.2.2.2.2.2.2.1 x.1.2.2.2.1.2.2.2.2.2.2.2.2.1 x.1.2.2.2.1.2.2.2.2.2.2.2.2.2.1 x.1.2.2.2.1.2.2.2.2.2.2.2.2.2.2.1 x.1.2.2.2.1.2.2.2.2.2.2.2.2.2.2.2.1 x.1.2.2.2.1.2.2.2.2.2.2.2.2.2.2.2.2.1 x.1.2.2.2.1.2.2.2.2.2.2.2.2.2.2.2.2.2.1 x.1.2.2.2.1.2.2.2.2.2.2.2.2.2.2.2.2.2.2.1 x.1.2.2.2.1.2.2.2.2.2.2.2.2.2.2.2.2.2.2.2.1 x.1.2.2.2.2.1 x.2.1.2.1) fun x r R kn kx kr=>(Sum.elim (fun (r_0:Int × Bool × Int)=>kr ⟨[(2,[],.c (.o (.val (.int .i32 r_0.1)))),sL 3 (.vB r_0.2.1)],[],[.cells 82 [.vS x.2.1.1,.vI r_0.2.2,.vI x.2.1.2.2.1,.own 1,.own 2,.bsl 3,.vS x.2.1.2.2.2.2.2.2.1,.vI x.2.1.2.2.2.2.2.2.2.1,.vI x.2.1.2.2.2.2.2.2.2.2.1],.view .node x.2.2.1,.view .i64 x.2.2.2.1,.bag [.map] 107 x.2.2.2.2.1]⟩) (fun (r_1:Unit)=>kx 1 ⟨[sL 0 (.hd 0 0),sL 4 (.vI x.1.2.1)],[],[.cells 82 [.vS x.2.1.1,.vI x.2.1.2.1,.vI x.2.1.2.2.1,.own 1,.own 2,.bsl 3,.vS x.2.1.2.2.2.2.2.2.1,.vI x.2.1.2.2.2.2.2.2.2.1,.vI x.2.1.2.2.2.2.2.2.2.2.1],.view .node x.2.2.1,.view .i64 x.2.2.2.1,.bag [.map] 107 x.2.2.2.2.1]⟩)) r
def zak_L:Nat→SubQ:=tblL [(0,zak_l0)]
theorem zak_sub0:qA0 zak_L zak_G 4 59 79 0 zak_b0:=qAp (show zak_L 0=zak_l0 from by kernel_rfl) fun x R kn kx kr=>qAm (step:=fun y=>qC1 x.1.2.2.1 x.1.2.2.2.1.1 x.1.2.2.2.1.2.1 x.1.2.2.2.1.2.2.1 x.1.2.2.2.1.2.2.2.1 x.1.2.2.2.1.2.2.2.2.1 x.1.2.2.2.1.2.2.2.2.2.1 x.1.2.2.2.1.2.2.2.2.2.2.1 x.1.2.2.2.1.2.2.2.2.2.2.2.1 x.1.2.2.2.1.2.2.2.2.2.2.2.2.1 x.1.2.2.2.1.2.2.2.2.2.2.2.2.2.1 x.1.2.2.2.1.2.2.2.2.2.2.2.2.2.2.1 x.1.2.2.2.1.2.2.2.2.2.2.2.2.2.2.2.1 x.1.2.2.2.1.2.2.2.2.2.2.2.2.2.2.2.2.1 x.1.2.2.2.1.2.2.2.2.2.2.2.2.2.2.2.2.2.1 x.1.2.2.2.1.2.2.2.2.2.2.2.2.2.2.2.2.2.2.1 x.1.2.2.2.1.2.2.2.2.2.2.2.2.2.2.2.2.2.2.2.1 y x.2.1.2.1) (enc:=fun (y:Int)=>zak_d0.e ((x.1.1,x.1.2.1,x.1.2.2.1,x.1.2.2.2.1,y,x.1.2.2.2.2.2),x.2)) (fun y=>by kernel_rfl) (fun y ki=>by simp only [qC1,-eq_self,qAc,qAe,obA,obS,slL,slR,qAd]; kernel_rfl) x.1.2.2.2.2.1
def zak_c:CS:=mkC (qAa (dVC (dCO (dH 0 0))) dNil) (qAa qG2 zDJP2) (fun x y=>zak_s (⟨y.1.1,y.1.2.1,y.1.2.2.1,y.2.1,y.2.2.1,y.2.2.2.1,y.1.2.2.2.2.2.2.1,y.1.2.2.2.2.2.2.2.1,y.1.2.2.2.2.2.2.2.2.1⟩:json_reader)) (fun x y r=>.tup [.o (.val (.int .i32 r.2.1)),.o (.vB r.2.2)]) fun x y r=>[.cells 82 [.vS r.1.text,.vI r.1.at_,.vI r.1.state,.own 1,.own 2,.bsl 3,.vS r.1.key,.vI r.1.code,.vI r.1.bad],.view .node y.2.1,.view .i64 y.2.2.1,.bag [.map] 107 r.1.names]
theorem zak_val:qAj Tryz.prog 104 zak_c:=vl1 zak_q [.tmp 2,.tmp 3] 79 59 4 (show qAu zak_L zak_G 4 59 79 [(0,zak_b0)] from ⟨zak_sub0,tV⟩) (qAl ⟨zan_ok,zao_ok,zap_ok,zal_ok,tV⟩) fun x y=>by
 simp only [zak_s,-eq_self,qAc,qAe,obA,obS,slL,slR,qAd];kernel_rfl
def zak_w:CQ:=qBh [(0,some 3,some (.node,70)),(0,some 4,some (.i64,3)),(0,some 5,some ((.bag [.map]),107))] (qBs [true,false,false,true] zak_c)
theorem zak_ok:qAg Tryz.prog 104 zak_w:=qAs zak_val
def zds_b0:IQ:=(.cond t25 (.seq (rg 4 [oM 34 t0,oM 35 t1,oP 36 (.bi .shr t35 (.v (.int .u64 12))),oP 37 (.conv false .u8 t36),oP 38 (.bi .or (vC 224) t37),oM 39 t1,oP 40 (.bi .shr t39 (.v (.int .u64 6))),oP 41 (.conv false .u8 t40),oP 42 (.bi .and t41 (vC 63)),oP 43 (.bi .or (vC 128) t42),oM 44 t1,oP 45 (.conv false .u8 t44),oP 46 (.bi .and t45 (vC 63)),oP 47 (.bi .or (vC 128) t46),oP 48 (.bslice 5 1 3 [.int .u8 0] [(0,t38),(1,t43),(2,t47)]),oP 49 (.append 5 1 1 [.int .u8 0] t34 t48),oM 4 t49]) (.canon [(4,none,.u8,5)] [4] .ret)) (.seq (rg 50 [oM 51 t5,oP 52 (.bi .gtr t51 (.v (.int .u32 65535))),oM 53 t52,oF 54 (.mv t5) 53,oF 55 (.bi .leq t54 (.v (.int .u32 1114111))) 53,oP 56 (.pick t53 t55 vF),oM 50 t56]) (.cond t50 (.seq (rg 4 [oM 57 t0,oM 58 t1,oP 59 (.bi .shr t58 (.v (.int .u64 18))),oP 60 (.conv false .u8 t59),oP 61 (.bi .or (vC 240) t60),oM 62 t1,oP 63 (.bi .shr t62 (.v (.int .u64 12))),oP 64 (.conv false .u8 t63),oP 65 (.bi .and t64 (vC 63)),oP 66 (.bi .or (vC 128) t65),oM 67 t1,oP 68 (.bi .shr t67 (.v (.int .u64 6))),oP 69 (.conv false .u8 t68),oP 70 (.bi .and t69 (vC 63)),oP 71 (.bi .or (vC 128) t70),oM 72 t1,oP 73 (.conv false .u8 t72),oP 74 (.bi .and t73 (vC 63)),oP 75 (.bi .or (vC 128) t74),oP 76 (.bslice 5 1 4 [.int .u8 0] [(0,t61),(1,t66),(2,t71),(3,t75)]),oP 77 (.append 5 1 1 [.int .u8 0] t57 t76),oM 4 t77]) (.canon [(4,none,.u8,5)] [4] .ret)) (.seq (rg 4 [oM 8 t0,oP 9 (.bslice 5 1 3 [.int .u8 0] [(0,(vC 239)),(1,(vC 191)),(2,(vC 189))]),oP 10 (.append 5 1 1 [.int .u8 0] t8 t9),oM 4 t10]) (.canon [(4,none,.u8,5)] [4] .ret)))))
def zds_q:IQ:=(.seq (rg 4 [oP 4 (.mv (.v (.slice none 0 0)))]) (.seq (rg 5 [oM 6 t1,oP 7 (.conv false .u32 t6),oM 5 t7]) (.block 0 (.seq (rg 11 [oM 12 t5,oP 13 (.bi .leq t12 (.v (.int .u32 2047))),oM 11 t13]) (.cond t11 (.seq (rg 4 [oM 14 t0,oM 15 t1,oP 16 (.bi .shr t15 (.v (.int .u64 6))),oP 17 (.conv false .u8 t16),oP 18 (.bi .or (vC 192) t17),oM 19 t1,oP 20 (.conv false .u8 t19),oP 21 (.bi .and t20 (vC 63)),oP 22 (.bi .or (vC 128) t21),oP 23 (.bslice 5 1 2 [.int .u8 0] [(0,t18),(1,t22)]),oP 24 (.append 5 1 1 [.int .u8 0] t14 t23),oM 4 t24]) (.canon [(4,none,.u8,5)] [4] .ret)) (.seq (.seq (rg 25 [oM 26 t5,oP 27 (.bi .lss t26 (.v (.int .u32 55296))),oM 25 t27]) (.cond t25 .skip (rg 25 [oM 28 t5,oP 29 (.bi .lss (.v (.int .u32 57343)) t28),oM 30 t29,oF 31 (.mv t5) 30,oF 32 (.bi .leq t31 (.v (.int .u32 65535))) 30,oP 33 (.pick t30 t32 vF),oM 25 t33]))) (.cn [0,1,5,25] (.sub 0 zds_b0))))))))
def zds_p0 (r_ i:Int) (x25_:Bool) (p:List Int):Option ((List Int)) :=
 bif x25_ then (
  gd (0≤(12:Int)) <|
  gd (0≤(6:Int)) <|
  gd (p.length+([(qBy .u8 (224:Int) ((r_ / 4096) % 256)),(qBy .u8 (128:Int) (qCw .u8 ((r_ / 64) % 256) (63:Int))),(qBy .u8 (128:Int) (qCw .u8 (r_ % 256) (63:Int)))]:List Int).length≤9223372036854775807∧(p.length+([(qBy .u8 (224:Int) ((r_ / 4096) % 256)),(qBy .u8 (128:Int) (qCw .u8 ((r_ / 64) % 256) (63:Int))),(qBy .u8 (128:Int) (qCw .u8 (r_ % 256) (63:Int)))]:List Int).length)*1≤140737488355328) <|
  some (p++[(qBy .u8 (224:Int) ((r_ / 4096) % 256)),(qBy .u8 (128:Int) (qCw .u8 ((r_ / 64) % 256) (63:Int))),(qBy .u8 (128:Int) (qCw .u8 (r_ % 256) (63:Int)))]))
 else (
  bif ((decide ((65535:Int)<i)) && (decide (i≤(1114111:Int)))) then (
   gd (0≤(18:Int)) <|
   gd (0≤(12:Int)) <|
   gd (0≤(6:Int)) <|
   gd (p.length+([(qBy .u8 (240:Int) ((r_ / 262144) % 256)),(qBy .u8 (128:Int) (qCw .u8 ((r_ / 4096) % 256) (63:Int))),(qBy .u8 (128:Int) (qCw .u8 ((r_ / 64) % 256) (63:Int))),(qBy .u8 (128:Int) (qCw .u8 (r_ % 256) (63:Int)))]:List Int).length≤9223372036854775807∧(p.length+([(qBy .u8 (240:Int) ((r_ / 262144) % 256)),(qBy .u8 (128:Int) (qCw .u8 ((r_ / 4096) % 256) (63:Int))),(qBy .u8 (128:Int) (qCw .u8 ((r_ / 64) % 256) (63:Int))),(qBy .u8 (128:Int) (qCw .u8 (r_ % 256) (63:Int)))]:List Int).length)*1≤140737488355328) <|
   some (p++[(qBy .u8 (240:Int) ((r_ / 262144) % 256)),(qBy .u8 (128:Int) (qCw .u8 ((r_ / 4096) % 256) (63:Int))),(qBy .u8 (128:Int) (qCw .u8 ((r_ / 64) % 256) (63:Int))),(qBy .u8 (128:Int) (qCw .u8 (r_ % 256) (63:Int)))]))
  else (
   gd (p.length+([(239:Int),(191:Int),(189:Int)]:List Int).length≤9223372036854775807∧(p.length+([(239:Int),(191:Int),(189:Int)]:List Int).length)*1≤140737488355328) <|
   some (p++[(239:Int),(191:Int),(189:Int)])))
def zds_s (p:(List Int)) (r_:Int):Option ((List Int)) :=
 bif decide ((r_ % 4294967296)≤(2047:Int)) then (
  gd (0≤(6:Int)) <|
  gd (p.length+([(qBy .u8 (192:Int) ((r_ / 64) % 256)),(qBy .u8 (128:Int) (qCw .u8 (r_ % 256) (63:Int)))]:List Int).length≤9223372036854775807∧(p.length+([(qBy .u8 (192:Int) ((r_ / 64) % 256)),(qBy .u8 (128:Int) (qCw .u8 (r_ % 256) (63:Int)))]:List Int).length)*1≤140737488355328) <|
  some (p++[(qBy .u8 (192:Int) ((r_ / 64) % 256)),(qBy .u8 (128:Int) (qCw .u8 (r_ % 256) (63:Int)))]))
 else (
  bif decide ((r_ % 4294967296)<(55296:Int)) then (
   (zds_p0 r_ (r_ % 4294967296) (decide ((r_ % 4294967296)<(55296:Int))) p).bind fun o1 =>
   some o1)
  else (
   (zds_p0 r_ (r_ % 4294967296) ((decide ((57343:Int)<(r_ % 4294967296))) && (decide ((r_ % 4294967296)≤(65535:Int)))) p).bind fun o2 =>
   some o2))
def zds_G:Nat→Option CQ:=tblQ []
def zds_d0:=(dQS (qAa (dSO 0 (dO 0)) (qAa (dSO 1 (dI .i32)) (qAa (dSO 5 (dI .u32)) (qAa (dSO 25 dB) dNil)))) (qAa (dRow .u8 5) dNil))
def zds_l0:SubQ:=mkL zds_d0 (fun x=>zds_p0 x.1.2.1 x.1.2.2.1 x.1.2.2.2.1 x.2.1) fun x r R kn kx kr=>kr ⟨[sL 4 (.own 1)],[],[.dead,.row .u8 5 r]⟩
def zds_L:Nat→SubQ:=tblL [(0,zds_l0)]
theorem zds_sub0:qA0 zds_L zds_G 1 6 78 0 zds_b0:=qAp (show zds_L 0=zds_l0 from by kernel_rfl) fun x R kn kx kr=>by
 simp only [zds_p0,-eq_self,qAc,qAe,obA,obS,slL,slR,qAd];kernel_rfl
def zds_c:CS:=mkC (qAa (dVC (dCO (dO 0))) (qAa (dVC (dCO (dI .i32))) dNil)) (qAa (dRow .u8 5) dNil) (fun x y=>zds_s y.1 x.2.1) (fun x y r=>.c (.o (.own 1))) fun x y r=>[.dead,.row .u8 5 r]
theorem zds_val:qAj Tryz.prog 119 zds_c:=vl1 zds_q [.tmp 4] 78 6 1 (show qAu zds_L zds_G 1 6 78 [(0,zds_b0)] from ⟨zds_sub0,tV⟩) (fun f C h=>by cases h) fun x y=>by
 simp only [zds_s,-eq_self,qAc,qAe,obA,obS,slL,slR,qAd];kernel_rfl
def zds_w:CQ:=qBh [(0,none,some (.u8,5))] (qBs [true] zds_c)
theorem zds_ok:qAg Tryz.prog 119 zds_w:=qAs zds_val
def zdr_q:IQ:=(.seq (rg 4 [oP 4 (.mv (.v (.slice none 0 0)))]) (.seq (.seq (rg 7 [oM 5 t1,oP 6 (.conv false .u32 t5),oP 7 (.bi .leq t6 (.v (.int .u32 127)))]) (.cond t7 (.seq (rg 4 [oM 8 t0,oM 9 t1,oP 10 (.conv false .u8 t9),oP 11 (.bslice 5 1 1 [.int .u8 0] [(0,t10)]),oP 12 (.append 5 1 1 [.int .u8 0] t8 t11),oM 4 t12]) (.canon [(4,none,.u8,5)] [4] .ret)) .skip)) (.seq (rg 4 [oM 13 t0,oM 14 t1,oP 15 (.call 119 [t13,t14]),oM 4 t15]) (.canon [(4,none,.u8,5)] [4] .ret))))
def zdr_s (p:(List Int)) (r_:Int):Option ((List Int)) :=
 bif decide ((r_ % 4294967296)≤(127:Int)) then (
  gd (p.length+([(r_ % 256)]:List Int).length≤9223372036854775807∧(p.length+([(r_ % 256)]:List Int).length)*1≤140737488355328) <|
  some (p++[(r_ % 256)]))
 else (
  (zds_s p r_).bind fun r1 =>
  some r1)
def zdr_c:CS:=mkC (qAa (dVC (dCO (dO 0))) (qAa (dVC (dCO (dI .i32))) dNil)) (qAa (dRow .u8 5) dNil) (fun x y=>zdr_s y.1 x.2.1) (fun x y r=>.c (.o (.own 1))) fun x y r=>[.dead,.row .u8 5 r]
theorem zdr_val:qAj Tryz.prog 105 zdr_c:=vl0 zdr_q [.tmp 4] 16 5 1 [(119,zds_w)] ⟨zds_ok,tV⟩ fun x y=>by
 simp only [zdr_s,-eq_self,qAc,qAe,obA,obS,slL,slR,qAd];kernel_rfl
def zdr_w:CQ:=qBh [(0,none,some (.u8,5))] (qBs [true] zdr_c)
theorem zdr_ok:qAg Tryz.prog 105 zdr_w:=qAs zdr_val
def zar_q:IQ:=(.seq (rg 3 [oP 2 (.mv (vI 0)),oP 3 (.mv vF)]) (.seq (.reg 5 (some [0,1,2,3,4,5,6,7,8,9,10,11,12,13,14]) (rF 7 t0 0++rF 11 t0 1++[oP 15 (.sub none t10 (some t14) none),oP 16 (.call 94 [t15]),oM 6 t16,oP 17 (.extract t6 0),oP 18 (.extract t6 1),oM 4 t17,oM 5 t18])) (.seq (.seq (rg 24 [oM 19 t4,oP 20 (.bi .neq t19 (.v (.int .i32 65533))),oM 21 t20,oE 22 (.mv t5) 21,oE 23 (.bi .gtr t22 (vI 1)) 21,oP 24 (.pick t21 vT t23)]) (.cond t24 (.seq (rg 3 [oM 25 t5,oM 2 t25,oP 3 (.mv vT)]) (.cn [2,3] .ret)) .skip)) (.seq (.seq (.reg 36 (some [0,1,2,3,4,5,6,7,8,9,10]) (rF 26 t0 0++rF 30 t0 1++[oP 34 (.sub none t29 (some t33) none),oP 35 (.call 120 [t34]),oP 36 (.un .not t35)])) (.cond t36 (.seq (rg 3 ([oM 37 t0]++rF 38 t0 0++[oP 42 (.lenS t41),oP 43 (.call 92 [t37,(vI 31),t42]),oP 2 (.mv (vI 0)),oM 3 t43])) (.cn [2,3] .ret)) .skip)) (.seq (rg 3 ([oM 44 t0]++rF 45 t0 1++[oP 49 (.call 92 [t44,(vI 32),t48]),oP 2 (.mv (vI 0)),oM 3 t49])) (.cn [2,3] .ret))))))
def zar_s (r_:json_reader):Option (json_reader × Int × Bool) :=
 gd (0≤r_.at_∧r_.at_≤(r_.text.size:Int)∧(r_.text.size:Int)≤r_.text.size) <|
 (qBg (r_.text.extract (Int.toNat r_.at_) r_.text.size)).bind fun r4 =>
 bif ((!decide (r4.1=(65533:Int))) || (decide ((1:Int)<r4.2))) then (
  some (r_,r4.2,true))
 else (
  gd (0≤r_.at_∧r_.at_≤(r_.text.size:Int)∧(r_.text.size:Int)≤r_.text.size) <|
  (qBz (r_.text.extract (Int.toNat r_.at_) r_.text.size)).bind fun r5 =>
  bif (!r5) then (
   (zal_s r_ (31:Int) (r_.text.size:Int)).bind fun r6 =>
   some ({r6.1 with out:=r_.out,open_:=r_.open_:json_reader},(0:Int),r6.2))
  else (
   (zal_s r_ (32:Int) r_.at_).bind fun r7 =>
   some ({r7.1 with out:=r_.out,open_:=r_.open_:json_reader},(0:Int),r7.2)))
def zar_c:CS:=mkC (qAa (dVC (dCO (dH 0 0))) dNil) (qAa qG2 zDJP2) (fun x y=>zar_s (⟨y.1.1,y.1.2.1,y.1.2.2.1,y.2.1,y.2.2.1,y.2.2.2.1,y.1.2.2.2.2.2.2.1,y.1.2.2.2.2.2.2.2.1,y.1.2.2.2.2.2.2.2.2.1⟩:json_reader)) (fun x y r=>.tup [.o (.vI r.2.1),.o (.vB r.2.2)]) fun x y r=>[.cells 82 [.vS r.1.text,.vI r.1.at_,.vI r.1.state,.own 1,.own 2,.bsl 3,.vS r.1.key,.vI r.1.code,.vI r.1.bad],.view .node y.2.1,.view .i64 y.2.2.1,.bag [.map] 107 r.1.names]
theorem zar_val:qAj Tryz.prog 106 zar_c:=vl0 zar_q [.tmp 2,.tmp 3] 50 6 4 [(94,qDg),(120,qD8),(92,zal_w)] ⟨qGe,qHg,zal_ok,tV⟩ fun x y=>by
 simp only [zar_s,-eq_self,qAc,qAe,obA,obS,slL,slR,qAd];kernel_rfl
def zar_w:CQ:=qBh [(0,some 3,some (.node,70)),(0,some 4,some (.i64,3)),(0,some 5,some ((.bag [.map]),107))] (qBs [true,false,false,true] zar_c)
theorem zar_ok:qAg Tryz.prog 106 zar_w:=qAs zar_val
def zaq_b0:IQ:=(.loop [0,4] (.block 1 (.seq (.seq (.reg 26 (some [0,1,2,3,4,5,6,7,8,9]) (rF 17 t0 1++rF 21 t0 0++[oP 25 (.lenS t24),oP 26 (.bi .eql t20 t25)])) (.cond t26 (.seq (rg 3 [oM 27 t0,oP 28 (.call 72 [t27]),oP 2 (.mv (.v (.string ⟨#[]⟩))),oM 3 t28]) (.cn [2,3] .ret)) .skip)) (.seq (.reg 5 (some [0,1,2,3,4,5,6,7,8,9]) (rF 29 t0 0++rF 33 t0 1++[oP 37 (.index t32 t36),oM 5 t37])) (.block 2 (.seq (rg 70 [oM 71 t5,oP 72 (.bi .eql t71 (vC 34)),oM 70 t72]) (.cond t70 (.seq (rg 0 (rF 73 t0 1++[oP 77 (.bi .add t76 (vI 1))]++rS 78 t73 1 t77)) (.seq (rg 3 [oM 80 t4,oP 81 (.ext .toStr [t80]),oM 2 t81,oP 3 (.mv vT)]) (.cn [2,3] .ret))) (.seq (rg 82 [oM 83 t5,oP 84 (.bi .eql t83 (vC 92)),oM 82 t84]) (.cond t82 (.seq (rg 7 [oM 86 t0,oP 87 (.call 104 [t86]),oM 85 t87,oP 88 (.extract t85 0),oP 89 (.extract t85 1),oM 6 t88,oM 7 t89]) (.seq (.seq (rg 91 [oM 90 t7,oP 91 (.un .not t90)]) (.cond t91 (.seq (rg 3 [oP 2 (.mv (.v (.string ⟨#[]⟩))),oP 3 (.mv vF)]) (.cn [2,3] .ret)) .skip)) (rg 4 [oM 92 t4,oM 93 t6,oP 94 (.call 105 [t92,t93]),oM 4 t94]))) (.seq (rg 95 [oM 96 t5,oP 97 (.bi .lss t96 (vC 32)),oM 95 t97]) (.cond t95 (.seq (rg 3 [oM 98 t0,oP 99 (.call 72 [t98]),oP 2 (.mv (.v (.string ⟨#[]⟩))),oM 3 t99]) (.cn [2,3] .ret)) (.seq (rg 100 [oM 101 t5,oP 102 (.bi .lss t101 (vC 128)),oM 100 t102]) (.cond t100 (.seq (rg 4 [oM 103 t4,oM 104 t5,oP 105 (.bslice 5 1 1 [.int .u8 0] [(0,t104)]),oP 106 (.append 5 1 1 [.int .u8 0] t103 t105),oM 4 t106]) (rg 0 (rF 107 t0 1++[oP 111 (.bi .add t110 (vI 1))]++rS 112 t107 1 t111))) (.seq (rg 9 [oM 39 t0,oP 40 (.call 106 [t39]),oM 38 t40,oP 41 (.extract t38 0),oP 42 (.extract t38 1),oM 8 t41,oM 9 t42]) (.seq (.seq (rg 44 [oM 43 t9,oP 44 (.un .not t43)]) (.cond t44 (.seq (rg 3 [oP 2 (.mv (.v (.string ⟨#[]⟩))),oP 3 (.mv vF)]) (.cn [2,3] .ret)) .skip)) (.seq (.reg 4 (some [0,1,2,3,4,5,6,7,8,9,10,11,12,13,14,15,16,17]) ([oM 45 t4]++rF 46 t0 0++rF 50 t0 1++rF 54 t0 1++[oM 58 t8,oP 59 (.bi .add t57 t58),oP 60 (.sub none t49 (some t53) (some t59)),oP 61 (.ext (.appStr 5) [t45,t60]),oM 4 t61])) (rg 0 (rF 62 t0 1++[oM 66 t8,oP 67 (.bi .add t65 t66)]++rS 68 t62 1 t67))))))))))))))))))
def zaq_q:IQ:=(.seq (rg 3 [oP 2 (.mv (.v (.string ⟨#[]⟩))),oP 3 (.mv vF)]) (.seq (rg 4 [oP 4 (.mv (.v (.slice none 0 0)))]) (.seq (rg 0 (rF 10 t0 1++[oP 14 (.bi .add t13 (vI 1))]++rS 15 t10 1 t14)) (.block 0 (.canon [(4,none,.u8,5)] [0,4] (.sub 0 zaq_b0))))))
def qBo (qHo:BA) (qHn qHw:Int) (qH2:BA) (qHx qH1:Int) (qH3:List Eng.Node) (qH0:List Int) (qHv:qCp) (b:List Int):Option ((BA × Int × Int × BA × Int × Int × qCp × (List Int)) ⊕ (BA × Bool × BA × Int × Int × BA × Int × Int × qCp)) :=
 bif decide (qHn=(qHo.size:Int)) then (
  (zao_s (⟨qHo,qHn,qHw,qH3,qH0,qHv,qH2,qHx,qH1⟩:json_reader)).bind fun r34 =>
  some (.inr ((⟨#[]⟩:BA),r34.2,r34.1.text,r34.1.at_,r34.1.state,r34.1.key,r34.1.code,r34.1.bad,r34.1.names)))
 else (
  gd (0≤qHn∧qHn<qHo.size) <|
  bif decide ((bAt qHo qHn)=(34:Int)) then (
   gd (qAf (qHn+(1:Int))) <|
   some (.inr ((qBe b),true,qHo,(qHn+(1:Int)),qHw,qH2,qHx,qH1,qHv)))
  else (
   bif decide ((bAt qHo qHn)=(92:Int)) then (
    (zak_s (⟨qHo,qHn,qHw,qH3,qH0,qHv,qH2,qHx,qH1⟩:json_reader)).bind fun r35 =>
    bif (!r35.2.2) then (
     some (.inr ((⟨#[]⟩:BA),false,r35.1.text,r35.1.at_,r35.1.state,r35.1.key,r35.1.code,r35.1.bad,r35.1.names)))
    else (
     (zdr_s b r35.2.1).bind fun r36 =>
     some (.inl (r35.1.text,r35.1.at_,r35.1.state,r35.1.key,r35.1.code,r35.1.bad,r35.1.names,r36))))
   else (
    bif decide ((bAt qHo qHn)<(32:Int)) then (
     (zao_s (⟨qHo,qHn,qHw,qH3,qH0,qHv,qH2,qHx,qH1⟩:json_reader)).bind fun r37 =>
     some (.inr ((⟨#[]⟩:BA),r37.2,r37.1.text,r37.1.at_,r37.1.state,r37.1.key,r37.1.code,r37.1.bad,r37.1.names)))
    else (
     bif decide ((bAt qHo qHn)<(128:Int)) then (
      gd (b.length+([(bAt qHo qHn)]:List Int).length≤9223372036854775807∧(b.length+([(bAt qHo qHn)]:List Int).length)*1≤140737488355328) <|
      gd (qAf (qHn+(1:Int))) <|
      some (.inl (qHo,(qHn+(1:Int)),qHw,qH2,qHx,qH1,qHv,(b++[(bAt qHo qHn)]))))
     else (
      (zar_s (⟨qHo,qHn,qHw,qH3,qH0,qHv,qH2,qHx,qH1⟩:json_reader)).bind fun r38 =>
      bif (!r38.2.2) then (
       some (.inr ((⟨#[]⟩:BA),false,r38.1.text,r38.1.at_,r38.1.state,r38.1.key,r38.1.code,r38.1.bad,r38.1.names)))
      else (
       gd (qAf (r38.1.at_+r38.2.1)) <|
       gd (0≤r38.1.at_∧r38.1.at_≤(r38.1.at_+r38.2.1)∧(r38.1.at_+r38.2.1)≤r38.1.text.size) <|
       gd (b.length+(r38.1.text.extract (Int.toNat r38.1.at_) (Int.toNat (r38.1.at_+r38.2.1))).size≤140737488355328) <|
       gd (qAf (r38.1.at_+r38.2.1)) <|
       some (.inl (r38.1.text,(r38.1.at_+r38.2.1),r38.1.state,r38.1.key,r38.1.code,r38.1.bad,r38.1.names,(b++(qB9 (r38.1.text.extract (Int.toNat r38.1.at_) (Int.toNat (r38.1.at_+r38.2.1)))))))))))))
def zaq_p0 (qHo:BA) (qHn qHw:Int) (qH2:BA) (qHx qH1:Int) (qH3:List Eng.Node) (qH0:List Int) (qHv:qCp) (b:List Int):Option (BA × Bool × BA × Int × Int × BA × Int × Int × qCp) :=
 qAw (fun x:(BA × Int × Int × BA × Int × Int × qCp × (List Int))=>qBo x.1 x.2.1 x.2.2.1 x.2.2.2.1 x.2.2.2.2.1 x.2.2.2.2.2.1 qH3 qH0 x.2.2.2.2.2.2.1 x.2.2.2.2.2.2.2) (qHo,qHn,qHw,qH2,qHx,qH1,qHv,b)
def zaq_s (r_:json_reader):Option (json_reader × BA × Bool) :=
 gd (qAf (r_.at_+(1:Int))) <|
 (zaq_p0 r_.text (r_.at_+(1:Int)) r_.state r_.key r_.code r_.bad r_.out r_.open_ r_.names []).bind fun o39 =>
 some ((⟨o39.2.2.1,o39.2.2.2.1,o39.2.2.2.2.1,r_.out,r_.open_,o39.2.2.2.2.2.2.2.2,o39.2.2.2.2.2.1,o39.2.2.2.2.2.2.1,o39.2.2.2.2.2.2.2.1⟩:json_reader),o39.1,o39.2.1)
def zaq_G:Nat→Option CQ:=tblQ [(72,zao_w),(104,zak_w),(105,zdr_w),(106,zar_w)]
def zaq_d0:=(dQS (qAa (dSO 0 (dH 0 0)) (qAa (dSO 4 (dO 4)) dNil)) (qAa qG2 (qAa (dView .node) (qAa (dView .i64) (qAa (dBag [.map] 107) (qAa (dRow .u8 5) dNil))))))
def zaq_l0:SubQ:=mkL zaq_d0 (fun x=>zaq_p0 x.2.1.1 x.2.1.2.1 x.2.1.2.2.1 x.2.1.2.2.2.2.2.2.1 x.2.1.2.2.2.2.2.2.2.1 x.2.1.2.2.2.2.2.2.2.2.1 x.2.2.1 x.2.2.2.1 x.2.2.2.2.1 x.2.2.2.2.2.1) fun x r R kn kx kr=>kr ⟨[sL 2 (.vS r.1),sL 3 (.vB r.2.1)],[],[.cells 82 [.vS r.2.2.1,.vI r.2.2.2.1,.vI r.2.2.2.2.1,.own 1,.own 2,.bsl 3,.vS r.2.2.2.2.2.1,.vI r.2.2.2.2.2.2.1,.vI r.2.2.2.2.2.2.2.1],.view .node x.2.2.1,.view .i64 x.2.2.2.1,.bag [.map] 107 r.2.2.2.2.2.2.2.2]⟩
def zaq_L:Nat→SubQ:=tblL [(0,zaq_l0)]
theorem zaq_sub0:qA0 zaq_L zaq_G 4 10 114 0 zaq_b0:=qAp (show zaq_L 0=zaq_l0 from by kernel_rfl) fun x R kn kx kr=>qAm (step:=fun y=>qBo y.1 y.2.1 y.2.2.1 y.2.2.2.1 y.2.2.2.2.1 y.2.2.2.2.2.1 x.2.2.1 x.2.2.2.1 y.2.2.2.2.2.2.1 y.2.2.2.2.2.2.2) (enc:=fun (y:BA × Int × Int × BA × Int × Int × qCp × (List Int))=>zaq_d0.e (x.1,((y.1,y.2.1,y.2.2.1,x.2.1.2.2.2.1,x.2.1.2.2.2.2.1,x.2.1.2.2.2.2.2.1,y.2.2.2.1,y.2.2.2.2.1,y.2.2.2.2.2.1,x.2.1.2.2.2.2.2.2.2.2.2),x.2.2.1,x.2.2.2.1,y.2.2.2.2.2.2.1,y.2.2.2.2.2.2.2,x.2.2.2.2.2.2))) (fun y=>by kernel_rfl) (fun y ki=>by simp only [qBo,-eq_self,qAc,qAe,obA,obS,slL,slR,qAd]; kernel_rfl) (x.2.1.1,x.2.1.2.1,x.2.1.2.2.1,x.2.1.2.2.2.2.2.2.1,x.2.1.2.2.2.2.2.2.2.1,x.2.1.2.2.2.2.2.2.2.2.1,x.2.2.2.2.1,x.2.2.2.2.2.1)
def zaq_c:CS:=mkC (qAa (dVC (dCO (dH 0 0))) dNil) (qAa qG2 zDJP2) (fun x y=>zaq_s (⟨y.1.1,y.1.2.1,y.1.2.2.1,y.2.1,y.2.2.1,y.2.2.2.1,y.1.2.2.2.2.2.2.1,y.1.2.2.2.2.2.2.2.1,y.1.2.2.2.2.2.2.2.2.1⟩:json_reader)) (fun x y r=>.tup [.o (.vS r.2.1),.o (.vB r.2.2)]) fun x y r=>[.cells 82 [.vS r.1.text,.vI r.1.at_,.vI r.1.state,.own 1,.own 2,.bsl 3,.vS r.1.key,.vI r.1.code,.vI r.1.bad],.view .node y.2.1,.view .i64 y.2.2.1,.bag [.map] 107 r.1.names]
theorem zaq_val:qAj Tryz.prog 88 zaq_c:=vl1 zaq_q [.tmp 2,.tmp 3] 114 10 4 (show qAu zaq_L zaq_G 4 10 114 [(0,zaq_b0)] from ⟨zaq_sub0,tV⟩) (qAl ⟨zao_ok,zak_ok,zdr_ok,zar_ok,tV⟩) fun x y=>by
 simp only [zaq_s,-eq_self,qAc,qAe,obA,obS,slL,slR,qAd];kernel_rfl
def zaq_w:CQ:=qBh [(0,some 3,some (.node,70)),(0,some 4,some (.i64,3)),(0,some 5,some ((.bag [.map]),107))] (qBs [true,false,false,true] zaq_c)
theorem zaq_ok:qAg Tryz.prog 88 zaq_w:=qAs zaq_val
def zam_q:IQ:=(.join [] [] (.seq (rg 3 [oP 3 (.box 70 6 t1)]) (.seq (rg 0 (rF 4 t0 6++[oP 8 (.faddr 1 t3),oN (.store 1 t8 t7)])) (.seq (rg 0 [oM 9 t0,oP 10 (.nk t9),oP 11 (.faddr 6 t10),oN (.store 1 t11 (.v (.string ⟨#[]⟩)))]) (.seq (.seq (rg 17 (rF 12 t0 4++[oP 16 (.len t15),oP 17 (.bi .gtr t16 (vI 0))])) (.cond t17 (.reg 0 (some [0,1,2,3,4,5,6,7,8,9,10,11,12,13,14,15,16,17,18,19,20,21,22]) (rF 18 t0 3++rF 22 t0 4++rF 26 t0 4++[oP 30 (.len t29),oP 31 (.bi .sub t30 (vI 1)),oP 32 (.iaddr 1 t25 t31),oP 33 (.load none t32),oP 34 (.iaddr 6 t21 t33),oP 35 (.faddr 5 t34),oP 36 (.load none t35),oP 37 (.bi .add t36 (vI 1)),oP 38 (.iaddr 6 t21 t33),oP 39 (.faddr 5 t38),oN (.store 1 t39 t37)])) .skip)) (.reg 0 (some [0,1,2,3,4,5,6,7,8,9,10]) ([oM 40 t0]++rF 41 t0 3++[oP 45 (.load (some 6) t3),oP 46 (.bslice 70 6 1 [.int .i64 0,.string ⟨#[]⟩,.string ⟨#[]⟩,.bool false,.int .i64 0,.int .i64 0] [(0,t45)]),oP 47 (.append 70 6 64 [.int .i64 0,.string ⟨#[]⟩,.string ⟨#[]⟩,.bool false,.int .i64 0,.int .i64 0] t44 t46)]++rS 48 t40 3 t47)))))))
def zam_s (r_:json_reader) (n:Eng.Node):Option json_reader :=
 bif decide ((0:Int)<(r_.open_.length:Int)) then (
  gd (qAf ((r_.open_.length:Int) - (1:Int))) <|
  gd (0≤((r_.open_.length:Int) - (1:Int))∧((r_.open_.length:Int) - (1:Int))<r_.open_.length) <|
  gd ((Int.toNat ((r_.open_.length:Int) - (1:Int)))<r_.open_.length) <|
  gd (0≤(r_.open_.getD (Int.toNat ((r_.open_.length:Int) - (1:Int))) (ET.dft .i64))∧(r_.open_.getD (Int.toNat ((r_.open_.length:Int) - (1:Int))) (ET.dft .i64))<r_.out.length) <|
  gd ((Int.toNat (r_.open_.getD (Int.toNat ((r_.open_.length:Int) - (1:Int))) (ET.dft .i64)))<r_.out.length) <|
  gd ((Int.toNat (r_.open_.getD (Int.toNat ((r_.open_.length:Int) - (1:Int))) (ET.dft .i64)))<r_.out.length) <|
  gd (qAf (((r_.out.getD (Int.toNat (r_.open_.getD (Int.toNat ((r_.open_.length:Int) - (1:Int))) (ET.dft .i64))) (ET.dft .node)).kids)+(1:Int))) <|
  gd (0≤(r_.open_.getD (Int.toNat ((r_.open_.length:Int) - (1:Int))) (ET.dft .i64))∧(r_.open_.getD (Int.toNat ((r_.open_.length:Int) - (1:Int))) (ET.dft .i64))<r_.out.length) <|
  gd ((Int.toNat (r_.open_.getD (Int.toNat ((r_.open_.length:Int) - (1:Int))) (ET.dft .i64)))<r_.out.length) <|
  gd ((Int.toNat (r_.open_.getD (Int.toNat ((r_.open_.length:Int) - (1:Int))) (ET.dft .i64)))<r_.out.length) <|
  gd ((r_.out.set (Int.toNat (r_.open_.getD (Int.toNat ((r_.open_.length:Int) - (1:Int))) (ET.dft .i64))) (⟨(r_.out.getD (Int.toNat (r_.open_.getD (Int.toNat ((r_.open_.length:Int) - (1:Int))) (ET.dft .i64))) (ET.dft .node)).kind,(r_.out.getD (Int.toNat (r_.open_.getD (Int.toNat ((r_.open_.length:Int) - (1:Int))) (ET.dft .i64))) (ET.dft .node)).key,(r_.out.getD (Int.toNat (r_.open_.getD (Int.toNat ((r_.open_.length:Int) - (1:Int))) (ET.dft .i64))) (ET.dft .node)).text,(r_.out.getD (Int.toNat (r_.open_.getD (Int.toNat ((r_.open_.length:Int) - (1:Int))) (ET.dft .i64))) (ET.dft .node)).whole,(r_.out.getD (Int.toNat (r_.open_.getD (Int.toNat ((r_.open_.length:Int) - (1:Int))) (ET.dft .i64))) (ET.dft .node)).int,(((r_.out.getD (Int.toNat (r_.open_.getD (Int.toNat ((r_.open_.length:Int) - (1:Int))) (ET.dft .i64))) (ET.dft .node)).kids)+(1:Int))⟩:Eng.Node)).length+([(⟨n.kind,r_.key,n.text,n.whole,n.int,n.kids⟩:Eng.Node)]:List Eng.Node).length≤9223372036854775807∧((r_.out.set (Int.toNat (r_.open_.getD (Int.toNat ((r_.open_.length:Int) - (1:Int))) (ET.dft .i64))) (⟨(r_.out.getD (Int.toNat (r_.open_.getD (Int.toNat ((r_.open_.length:Int) - (1:Int))) (ET.dft .i64))) (ET.dft .node)).kind,(r_.out.getD (Int.toNat (r_.open_.getD (Int.toNat ((r_.open_.length:Int) - (1:Int))) (ET.dft .i64))) (ET.dft .node)).key,(r_.out.getD (Int.toNat (r_.open_.getD (Int.toNat ((r_.open_.length:Int) - (1:Int))) (ET.dft .i64))) (ET.dft .node)).text,(r_.out.getD (Int.toNat (r_.open_.getD (Int.toNat ((r_.open_.length:Int) - (1:Int))) (ET.dft .i64))) (ET.dft .node)).whole,(r_.out.getD (Int.toNat (r_.open_.getD (Int.toNat ((r_.open_.length:Int) - (1:Int))) (ET.dft .i64))) (ET.dft .node)).int,(((r_.out.getD (Int.toNat (r_.open_.getD (Int.toNat ((r_.open_.length:Int) - (1:Int))) (ET.dft .i64))) (ET.dft .node)).kids)+(1:Int))⟩:Eng.Node)).length+([(⟨n.kind,r_.key,n.text,n.whole,n.int,n.kids⟩:Eng.Node)]:List Eng.Node).length)*64≤140737488355328) <|
  some {r_ with out:=((r_.out.set (Int.toNat (r_.open_.getD (Int.toNat ((r_.open_.length:Int) - (1:Int))) (ET.dft .i64))) (⟨(r_.out.getD (Int.toNat (r_.open_.getD (Int.toNat ((r_.open_.length:Int) - (1:Int))) (ET.dft .i64))) (ET.dft .node)).kind,(r_.out.getD (Int.toNat (r_.open_.getD (Int.toNat ((r_.open_.length:Int) - (1:Int))) (ET.dft .i64))) (ET.dft .node)).key,(r_.out.getD (Int.toNat (r_.open_.getD (Int.toNat ((r_.open_.length:Int) - (1:Int))) (ET.dft .i64))) (ET.dft .node)).text,(r_.out.getD (Int.toNat (r_.open_.getD (Int.toNat ((r_.open_.length:Int) - (1:Int))) (ET.dft .i64))) (ET.dft .node)).whole,(r_.out.getD (Int.toNat (r_.open_.getD (Int.toNat ((r_.open_.length:Int) - (1:Int))) (ET.dft .i64))) (ET.dft .node)).int,(((r_.out.getD (Int.toNat (r_.open_.getD (Int.toNat ((r_.open_.length:Int) - (1:Int))) (ET.dft .i64))) (ET.dft .node)).kids)+(1:Int))⟩:Eng.Node))++[(⟨n.kind,r_.key,n.text,n.whole,n.int,n.kids⟩:Eng.Node)]),key:=(⟨#[]⟩:BA):json_reader})
 else (
  gd (r_.out.length+([(⟨n.kind,r_.key,n.text,n.whole,n.int,n.kids⟩:Eng.Node)]:List Eng.Node).length≤9223372036854775807∧(r_.out.length+([(⟨n.kind,r_.key,n.text,n.whole,n.int,n.kids⟩:Eng.Node)]:List Eng.Node).length)*64≤140737488355328) <|
  some {r_ with out:=(r_.out++[(⟨n.kind,r_.key,n.text,n.whole,n.int,n.kids⟩:Eng.Node)]),key:=(⟨#[]⟩:BA):json_reader})
def zDJP3:=(qAa (dRow .node 70) (qAa (dView .i64) (qAa (dBag [.map] 107) dNil)))
def zam_c:CS:=mkC (qAa (dVC (dCO (dH 0 0))) (qAa (dVC (dCA (qAa dZ (qAa dS (qAa dS (qAa dB (qAa dZ (qAa dZ dNil)))))))) dNil)) (qAa qG2 zDJP3) (fun x y=>zam_s (⟨y.1.1,y.1.2.1,y.1.2.2.1,y.2.1,y.2.2.1,y.2.2.2.1,y.1.2.2.2.2.2.2.1,y.1.2.2.2.2.2.2.2.1,y.1.2.2.2.2.2.2.2.2.1⟩:json_reader) (⟨x.2.1.1,x.2.1.2.1,x.2.1.2.2.1,x.2.1.2.2.2.1,x.2.1.2.2.2.2.1,x.2.1.2.2.2.2.2.1⟩:Eng.Node)) (fun x y r=>.tup []) fun x y r=>[.cells 82 [.vS r.text,.vI r.at_,.vI r.state,.own 4,.own 2,.bsl 3,.vS r.key,.vI r.code,.vI r.bad],.dead,.view .i64 y.2.2.1,.bag [.map] 107 r.names,.row .node 70 r.out]
theorem zam_val:qAj Tryz.prog 89 zam_c:=vl0 zam_q [] 50 4 4 [] trivial fun x y=>by
 simp only [zam_s,-eq_self,qAc,qAe,obA,obS,slL,slR,qAd];kernel_rfl
def zam_w:CQ:=qBh [(0,some 3,some (.node,70)),(0,some 4,some (.i64,3)),(0,some 5,some ((.bag [.map]),107))] (qBs [true,true,false,true] zam_c)
theorem zam_ok:qAg Tryz.prog 89 zam_w:=qAs zam_val
def zai_q:IQ:=(.join [] [] (.seq (rg 0 ([oM 2 t0]++rS 3 t2 2 (vI 5))) (.seq (rg 10 (rF 5 t0 4++[oP 9 (.len t8),oP 10 (.bi .eql t9 (vI 0))])) (.cond t10 (rg 0 ([oM 11 t0]++rS 12 t11 2 (vI 6))) .skip))))
def zai_s (r_:json_reader):Option json_reader :=
 bif decide ((r_.open_.length:Int)=(0:Int)) then (
  some {r_ with state:=(6:Int):json_reader})
 else (
  some {r_ with state:=(5:Int):json_reader})
def zai_c:CS:=mkC (qAa (dVC (dCO (dH 0 0))) dNil) (qAa qG2 zDJP2) (fun x y=>zai_s (⟨y.1.1,y.1.2.1,y.1.2.2.1,y.2.1,y.2.2.1,y.2.2.2.1,y.1.2.2.2.2.2.2.1,y.1.2.2.2.2.2.2.2.1,y.1.2.2.2.2.2.2.2.2.1⟩:json_reader)) (fun x y r=>.tup []) fun x y r=>[.cells 82 [.vS r.text,.vI r.at_,.vI r.state,.own 1,.own 2,.bsl 3,.vS r.key,.vI r.code,.vI r.bad],.view .node y.2.1,.view .i64 y.2.2.1,.bag [.map] 107 r.names]
theorem zai_val:qAj Tryz.prog 86 zai_c:=vl0 zai_q [] 14 2 4 [] trivial fun x y=>by
 simp only [zai_s,-eq_self,qAc,qAe,obA,obS,slL,slR,qAd];kernel_rfl
def zai_w:CQ:=qBh [(0,some 3,some (.node,70)),(0,some 4,some (.i64,3)),(0,some 5,some ((.bag [.map]),107))] (qBs [true,false,false,true] zai_c)
theorem zai_ok:qAg Tryz.prog 86 zai_w:=qAs zai_val
def zau_q:IQ:=(.seq (rg 4 [oP 4 (.mv vF)]) (.seq (.block 0 (.seq (rg 7 [oM 8 t1,oP 9 (.bi .eql t8 (vC 91)),oM 10 t9,oE 11 (.mv t1) 10,oE 12 (.bi .eql t11 (vC 123)) 10,oP 13 (.pick t10 vT t12),oM 7 t13]) (.cond t7 (.seq (rg 4 [oM 14 t0,oM 15 t1,oP 16 (.call 87 [t14,t15]),oM 4 t16]) (.cn [4] .ret)) (.seq (rg 17 [oM 18 t1,oP 19 (.bi .eql t18 (vC 34)),oM 17 t19]) (.cond t17 (.seq (rg 6 [oM 21 t0,oP 22 (.call 88 [t21]),oM 20 t22,oP 23 (.extract t20 0),oP 24 (.extract t20 1),oM 5 t23,oM 6 t24]) (.seq (.seq (rg 25 [oM 25 t6]) (.cond t25 (.seq (rg 29 [oM 26 t0,oM 27 t5,oP 28 (.build [.int .i64 0,.string ⟨#[]⟩,.string ⟨#[]⟩,.bool false,.int .i64 0,.int .i64 0] [(0,1,(vI 5)),(2,1,t27)]),oP 29 (.call 89 [t26,t28])]) (rg 31 [oM 30 t0,oP 31 (.call 86 [t30])])) .skip)) (.seq (rg 4 [oM 32 t6,oM 4 t32]) (.canon [(1000000,some 3,.u8,0),(3000001,none,.u8,0)] [4] .ret)))) (.seq (rg 33 [oM 34 t1,oP 35 (.bi .eql t34 (vC 45)),oM 36 t35,oE 37 (.mv t1) 36,oE 38 (.bi .geq t37 (vC 48)) 36,oE 39 (.mv t38) 36,oF 40 (.mv t1) 39,oF 41 (.bi .leq t40 (vC 57)) 39,oE 42 (.pick t39 t41 vF) 36,oP 43 (.pick t36 vT t42),oM 33 t43]) (.cond t33 (.seq (rg 4 [oM 44 t0,oP 45 (.call 90 [t44]),oM 4 t45]) (.cn [4] .ret)) (.seq (rg 46 [oM 47 t1,oP 48 (.bi .eql t47 (vC 110)),oM 46 t48]) (.cond t46 (.seq (rg 4 [oM 49 t0,oP 50 (.call 91 [t49,(.v (.string ⟨#[110,117,108,108]⟩)),(vI 1)]),oM 4 t50]) (.cn [4] .ret)) (.seq (rg 51 [oM 52 t1,oP 53 (.bi .eql t52 (vC 102)),oM 51 t53]) (.cond t51 (.seq (rg 4 [oM 54 t0,oP 55 (.call 91 [t54,(.v (.string ⟨#[102,97,108,115,101]⟩)),(vI 2)]),oM 4 t55]) (.cn [4] .ret)) (.seq (rg 56 [oM 57 t1,oP 58 (.bi .eql t57 (vC 116)),oM 56 t58]) (.cond t56 (.seq (rg 4 [oM 59 t0,oP 60 (.call 91 [t59,(.v (.string ⟨#[116,114,117,101]⟩)),(vI 3)]),oM 4 t60]) (.cn [4] .ret)) .skip))))))))))))) (.seq (rg 4 [oM 61 t0,oP 62 (.call 72 [t61]),oM 4 t62]) (.canon [(1000000,some 3,.u8,0),(3000001,none,.u8,0)] [4] .ret))))
def zau_s (r_:json_reader) (c:Int):Option (json_reader × Bool) :=
 bif ((decide (c=(91:Int))) || (decide (c=(123:Int)))) then (
  none)
 else (
  bif decide (c=(34:Int)) then (
   (zaq_s r_).bind fun r8 =>
   bif r8.2.2 then (
    (zam_s {r8.1 with out:=r_.out,open_:=r_.open_:json_reader} (⟨(5:Int),(⟨#[]⟩:BA),r8.2.1,false,(0:Int),(0:Int)⟩:Eng.Node)).bind fun r9 =>
    (zai_s {r9 with open_:=r_.open_:json_reader}).bind fun r10 =>
    some ({r10 with out:=r9.out,open_:=r_.open_:json_reader},r8.2.2))
   else (
    some ({r8.1 with out:=r_.out,open_:=r_.open_:json_reader},r8.2.2)))
  else (
   bif ((decide (c=(45:Int))) || ((decide ((48:Int)≤c)) && (decide (c≤(57:Int))))) then (
    none)
   else (
    bif decide (c=(110:Int)) then (
     none)
    else (
     bif decide (c=(102:Int)) then (
      none)
     else (
      bif decide (c=(116:Int)) then (
       none)
      else (
       (zao_s r_).bind fun r11 =>
       some ({r11.1 with out:=r_.out,open_:=r_.open_:json_reader},r11.2)))))))
def zau_c:CS:=mkC (qAa (dVC (dCO (dH 0 0))) (qAa (dVC (dCO (dI .u8))) dNil)) (qAa qG2 zDJP3) (fun x y=>zau_s (⟨y.1.1,y.1.2.1,y.1.2.2.1,y.2.1,y.2.2.1,y.2.2.2.1,y.1.2.2.2.2.2.2.1,y.1.2.2.2.2.2.2.2.1,y.1.2.2.2.2.2.2.2.2.1⟩:json_reader) x.2.1) (fun x y r=>.c (.o (.vB r.2))) fun x y r=>[.cells 82 [.vS r.1.text,.vI r.1.at_,.vI r.1.state,.own 4,.own 2,.bsl 3,.vS r.1.key,.vI r.1.code,.vI r.1.bad],.dead,.view .i64 y.2.2.1,.bag [.map] 107 r.1.names,.row .node 70 r.1.out]
theorem zau_val:qAj Tryz.prog 71 zau_c:=vl0 zau_q [.tmp 4] 63 7 4 [(88,zaq_w),(89,zam_w),(86,zai_w),(72,zao_w)] ⟨zaq_ok,zam_ok,zai_ok,zao_ok,tV⟩ fun x y=>by
 simp only [zau_s,-eq_self,qAc,qAe,obA,obS,slL,slR,qAd];kernel_rfl
def zau_w:CQ:=qBh [(0,some 3,some (.node,70)),(0,some 4,some (.i64,3)),(0,some 5,some ((.bag [.map]),107))] (qBs [true,true,false,true] zau_c)
theorem zau_ok:qAg Tryz.prog 71 zau_w:=qAs zau_val
def zas_b0:IQ:=(.seq (.seq (.seq (rg 34 [oM 33 t3,oP 34 (.bi .neq t33 (vC 34))]) (.cond t34 (.seq (rg 2 [oM 35 t0,oP 36 (.call 72 [t35]),oM 2 t36]) (.canon [(1000000,some 3,.u8,0),(3000001,none,.u8,0)] [2] .ret)) .skip)) (.seq (rg 2 [oM 37 t0,oP 38 (.call 73 [t37]),oM 2 t38]) (.cn [2] .ret))) (.exit 0))
def zas_q:IQ:=(.seq (rg 2 [oP 2 (.mv vF)]) (.seq (rg 3 [oM 4 t0,oP 5 (.call 69 [t4]),oM 3 t5]) (.seq (.seq (rg 9 (rF 6 t0 2)) (.block 0 (.seq (.block 6 (.seq (.block 5 (.seq (.block 4 (.seq (.block 3 (.seq (.block 2 (.seq (.block 1 (.seq (.seq (.seq (rg 10 [oP 11 (.bi .eql t9 (vI 1)),oM 10 t11]) (.cond t10 (.exit 1) .skip)) (.seq (.seq (rg 12 [oP 13 (.bi .eql t9 (vI 0)),oM 12 t13]) (.cond t12 (.exit 2) .skip)) (.seq (.seq (rg 14 [oP 15 (.bi .eql t9 (vI 3)),oM 14 t15]) (.cond t14 (.exit 3) .skip)) (.seq (.seq (rg 16 [oP 17 (.bi .eql t9 (vI 2)),oM 16 t17]) (.cond t16 (.exit 4) .skip)) (.seq (.seq (rg 18 [oP 19 (.bi .eql t9 (vI 4)),oM 18 t19]) (.cond t18 (.exit 5) .skip)) (.seq (rg 20 [oP 21 (.bi .eql t9 (vI 5)),oM 20 t21]) (.cond t20 (.exit 6) .skip))))))) (.exit 0))) (.seq (rg 23 [oM 22 t3,oP 23 (.bi .eql t22 (vC 93))]) (.cond t23 (.seq (rg 2 [oM 24 t0,oP 25 (.call 70 [t24]),oM 2 t25]) (.cn [2] .ret)) .skip)))) (.seq (.seq (rg 2 [oM 26 t0,oM 27 t3,oP 28 (.call 71 [t26,t27]),oM 2 t28]) (.canon [(1000000,some 3,.u8,0),(3000001,none,.u8,0)] [2] .ret)) (.exit 0)))) (.seq (rg 30 [oM 29 t3,oP 30 (.bi .eql t29 (vC 125))]) (.cond t30 (.seq (rg 2 [oM 31 t0,oP 32 (.call 70 [t31]),oM 2 t32]) (.cn [2] .ret)) .skip)))) (.cn [0,3] (.sub 0 zas_b0)))) (.seq (.seq (.seq (rg 40 [oM 39 t3,oP 40 (.bi .neq t39 (vC 58))]) (.cond t40 (.seq (rg 2 [oM 41 t0,oP 42 (.call 72 [t41]),oM 2 t42]) (.canon [(1000000,some 3,.u8,0),(3000001,none,.u8,0)] [2] .ret)) .skip)) (.seq (rg 0 (rF 43 t0 1++[oP 47 (.bi .add t46 (vI 1))]++rS 48 t43 1 t47)) (.seq (rg 0 ([oM 50 t0]++rS 51 t50 2 (vI 0))) (.seq (rg 2 [oP 2 (.mv vT)]) (.canon [(1000000,some 3,.u8,0),(3000001,none,.u8,0)] [2] .ret))))) (.exit 0)))) (.seq (.seq (rg 2 [oM 53 t0,oM 54 t3,oP 55 (.call 74 [t53,t54]),oM 2 t55]) (.cn [2] .ret)) (.exit 0))))) (.seq (rg 2 [oM 56 t0,oP 57 (.call 72 [t56]),oM 2 t57]) (.canon [(1000000,some 3,.u8,0),(3000001,none,.u8,0)] [2] .ret)))))
def zas_p0 (c:Int) (qHo:BA) (qHn qHw:Int) (qH2:BA) (qHx qH1:Int) (qH3:List Eng.Node) (qH0:List Int) (qHv:qCp):Option (Bool × BA × Int × Int × BA × Int × Int × qCp) :=
 bif (!decide (c=(34:Int))) then (
  (zao_s (⟨qHo,qHn,qHw,qH3,qH0,qHv,qH2,qHx,qH1⟩:json_reader)).bind fun r12 =>
  some (r12.2,r12.1.text,r12.1.at_,r12.1.state,r12.1.key,r12.1.code,r12.1.bad,r12.1.names))
 else (
  none)
def zas_s (r_:json_reader):Option (json_reader × Bool) :=
 (zan_s r_).bind fun r9 =>
 bif decide (r_.state=(1:Int)) then (
  bif decide (r9=(93:Int)) then (
   none)
  else (
   (zau_s r_ r9).bind fun r10 =>
   some ({r10.1 with open_:=r_.open_:json_reader},r10.2)))
 else (
  bif decide (r_.state=(0:Int)) then (
   (zau_s r_ r9).bind fun r11 =>
   some ({r11.1 with open_:=r_.open_:json_reader},r11.2))
  else (
   bif decide (r_.state=(3:Int)) then (
    bif decide (r9=(125:Int)) then (
     none)
    else (
     (zas_p0 r9 r_.text r_.at_ r_.state r_.key r_.code r_.bad r_.out r_.open_ r_.names).bind fun o13 =>
     some ((⟨o13.2.1,o13.2.2.1,o13.2.2.2.1,r_.out,r_.open_,o13.2.2.2.2.2.2.2,o13.2.2.2.2.1,o13.2.2.2.2.2.1,o13.2.2.2.2.2.2.1⟩:json_reader),o13.1)))
   else (
    bif decide (r_.state=(2:Int)) then (
     (zas_p0 r9 r_.text r_.at_ r_.state r_.key r_.code r_.bad r_.out r_.open_ r_.names).bind fun o14 =>
     some ((⟨o14.2.1,o14.2.2.1,o14.2.2.2.1,r_.out,r_.open_,o14.2.2.2.2.2.2.2,o14.2.2.2.2.1,o14.2.2.2.2.2.1,o14.2.2.2.2.2.2.1⟩:json_reader),o14.1))
    else (
     bif decide (r_.state=(4:Int)) then (
      bif (!decide (r9=(58:Int))) then (
       (zao_s r_).bind fun r15 =>
       some ({r15.1 with out:=r_.out,open_:=r_.open_:json_reader},r15.2))
      else (
       gd (qAf (r_.at_+(1:Int))) <|
       some ({r_ with at_:=(r_.at_+(1:Int)),state:=(0:Int):json_reader},true)))
     else (
      bif decide (r_.state=(5:Int)) then (
       none)
      else (
       (zao_s r_).bind fun r16 =>
       some ({r16.1 with out:=r_.out,open_:=r_.open_:json_reader},r16.2)))))))
def zas_G:Nat→Option CQ:=tblQ [(69,zan_w),(71,zau_w),(72,zao_w)]
def zas_d0:=(dQS (qAa (dSO 0 (dH 0 0)) (qAa (dSO 3 (dI .u8)) dNil)) (qAa qG2 zDJP3))
def zas_l0:SubQ:=mkL zas_d0 (fun x=>zas_p0 x.1.2.1 x.2.1.1 x.2.1.2.1 x.2.1.2.2.1 x.2.1.2.2.2.2.2.2.1 x.2.1.2.2.2.2.2.2.2.1 x.2.1.2.2.2.2.2.2.2.2.1 x.2.2.1 x.2.2.2.1 x.2.2.2.2.1) fun x r R kn kx kr=>kr ⟨[sL 2 (.vB r.1)],[],[.cells 82 [.vS r.2.1,.vI r.2.2.1,.vI r.2.2.2.1,.own 4,.own 2,.bsl 3,.vS r.2.2.2.2.1,.vI r.2.2.2.2.2.1,.vI r.2.2.2.2.2.2.1],.dead,.view .i64 x.2.2.2.1,.bag [.map] 107 r.2.2.2.2.2.2.2,.row .node 70 x.2.2.1]⟩
def zas_L:Nat→SubQ:=tblL [(0,zas_l0)]
theorem zas_sub0:qA0 zas_L zas_G 4 10 58 0 zas_b0:=qAp (show zas_L 0=zas_l0 from by kernel_rfl) fun x R kn kx kr=>by
 simp only [zas_p0,-eq_self,qAc,qAe,obA,obS,slL,slR,qAd];kernel_rfl
def zas_c:CS:=mkC (qAa (dVC (dCO (dH 0 0))) dNil) (qAa qG2 zDJP3) (fun x y=>zas_s (⟨y.1.1,y.1.2.1,y.1.2.2.1,y.2.1,y.2.2.1,y.2.2.2.1,y.1.2.2.2.2.2.2.1,y.1.2.2.2.2.2.2.2.1,y.1.2.2.2.2.2.2.2.2.1⟩:json_reader)) (fun x y r=>.c (.o (.vB r.2))) fun x y r=>[.cells 82 [.vS r.1.text,.vI r.1.at_,.vI r.1.state,.own 4,.own 2,.bsl 3,.vS r.1.key,.vI r.1.code,.vI r.1.bad],.dead,.view .i64 y.2.2.1,.bag [.map] 107 r.1.names,.row .node 70 r.1.out]
theorem zas_val:qAj Tryz.prog 60 zas_c:=vl1 zas_q [.tmp 2] 58 10 4 (show qAu zas_L zas_G 4 10 58 [(0,zas_b0)] from ⟨zas_sub0,tV⟩) (qAl ⟨zan_ok,zau_ok,zao_ok,tV⟩) fun x y=>by
 simp only [zas_s,-eq_self,qAc,qAe,obA,obS,slL,slR,qAd];kernel_rfl
def zas_w:CQ:=qBh [(0,some 3,some (.node,70)),(0,some 4,some (.i64,3)),(0,some 5,some ((.bag [.map]),107))] (qBs [true,true,false,true] zas_c)
theorem zas_ok:qAg Tryz.prog 60 zas_w:=qAs zas_val
def zag_b0:IQ:=(.loop [0,5] (.seq (.seq (rg 20 (rF 14 t5 1++[oM 18 t0,oP 19 (.lenS t18),oP 20 (.bi .lss t17 t19)])) (.cond t20 .skip (.cn [0,5] (.exit 0)))) (.seq (.block 1 (.seq (rg 25 [oM 23 t5,oP 24 (.call 60 [t23]),oP 25 (.un .not t24)]) (.cond t25 (.seq (.reg 4 (some [0,1,2,3,4,5,6,7,8,9,10]) (rF 26 t5 7++rF 30 t5 8++[oP 2 (.mv (.v (.slice none 0 0))),oM 3 t29,oM 4 t33])) (.canon [(2,none,.node,70)] [2,3,4] .ret)) .skip))) (rg 22 [oM 21 t5,oP 22 (.call 59 [t21])]))))
def zag_q:IQ:=(.seq (rg 4 [oP 2 (.mv (.v (.slice none 0 0))),oP 3 (.mv (vI 0)),oP 4 (.mv (vI 0))]) (.seq (.seq (rg 8 [oM 6 t0,oP 7 (.lenS t6),oP 8 (.bi .gtr t7 (vI 262144))]) (.cond t8 (.seq (rg 4 [oP 2 (.mv (.v (.slice none 0 0))),oP 3 (.mv (vI 10)),oP 4 (.mv (vI 0))]) (.canon [(2,none,.node,70)] [2,3,4] .ret)) .skip)) (.seq (rg 5 [oM 9 t0,oP 10 (.build [.string ⟨#[]⟩,.int .i64 0,.int .i64 0,.slice none 0 0,.slice none 0 0,.slice none 0 0,.string ⟨#[]⟩,.int .i64 0,.int .i64 0] [(0,1,t9)]),oP 11 (.box 82 9 t10),oM 5 t11]) (.seq (.seq (rg 13 [oM 12 t5,oP 13 (.call 59 [t12])]) (.block 0 (.cn [0,5] (.sub 0 zag_b0)))) (.seq (.seq (rg 38 (rF 34 t5 2++[oP 38 (.bi .neq t37 (vI 6))])) (.cond t38 (.seq (rg 4 [oM 39 t0,oP 40 (.lenS t39),oP 2 (.mv (.v (.slice none 0 0))),oP 3 (.mv (vI 31)),oM 4 t40]) (.canon [(2,none,.node,70)] [2,3,4] .ret)) .skip)) (.seq (rg 4 (rF 41 t5 3++[oM 2 t44,oP 3 (.mv (vI 0)),oP 4 (.mv (vI 0))])) (.canon [(2,none,.node,70)] [2,3,4] .ret)))))))
def qB5 (text qHo:BA) (qHn qHw:Int) (qH2:BA) (qHx qH1:Int) (qH3:List Eng.Node) (qH0:List Int) (qHv:qCp):Option ((BA × Int × Int × BA × Int × Int × (List Eng.Node) × qCp) ⊕ ((Int × Int × (List Eng.Node)) ⊕ (BA × Int × Int × BA × Int × Int × (List Eng.Node) × qCp))) :=
 bif decide (qHn<(text.size:Int)) then (
  (zas_s (⟨qHo,qHn,qHw,qH3,qH0,qHv,qH2,qHx,qH1⟩:json_reader)).bind fun r26 =>
  bif (!r26.2) then (
   some (.inr (.inl (r26.1.code,r26.1.bad,[]))))
  else (
   (zaj_s {r26.1 with open_:=qH0:json_reader}).bind fun r27 =>
   some (.inl (r27.text,r27.at_,r27.state,r27.key,r27.code,r27.bad,r26.1.out,r27.names))))
 else (
  some (.inr (.inr (qHo,qHn,qHw,qH2,qHx,qH1,qH3,qHv))))
def zag_p0 (text qHo:BA) (qHn qHw:Int) (qH2:BA) (qHx qH1:Int) (qH3:List Eng.Node) (qH0:List Int) (qHv:qCp):Option ((Int × Int × (List Eng.Node)) ⊕ (BA × Int × Int × BA × Int × Int × (List Eng.Node) × qCp)) :=
 qAw (fun x:(BA × Int × Int × BA × Int × Int × (List Eng.Node) × qCp)=>qB5 text x.1 x.2.1 x.2.2.1 x.2.2.2.1 x.2.2.2.2.1 x.2.2.2.2.2.1 x.2.2.2.2.2.2.1 qH0 x.2.2.2.2.2.2.2) (qHo,qHn,qHw,qH2,qHx,qH1,qH3,qHv)
def zag_s (text:BA):Option ((List Eng.Node) × Int × Int) :=
 bif decide ((262144:Int)<(text.size:Int)) then (
  some ([],(10:Int),(0:Int)))
 else (
  (zaj_s (⟨text,(0:Int),(0:Int),[],[],[],(⟨#[]⟩:BA),(0:Int),(0:Int)⟩:json_reader)).bind fun r25 =>
  (zag_p0 text r25.text r25.at_ r25.state r25.key r25.code r25.bad [] [] r25.names).bind fun o28=>(Sum.elim (fun (o28_0:Int × Int × (List Eng.Node)) =>
   some (o28_0.2.2,o28_0.1,o28_0.2.1)) (fun (o28_1:BA × Int × Int × BA × Int × Int × (List Eng.Node) × qCp) =>
   bif (!decide (o28_1.2.2.1=(6:Int))) then (
    some ([],(31:Int),(text.size:Int)))
   else (
    some (o28_1.2.2.2.2.2.2.1,(0:Int),(0:Int))))) o28)
def zag_G:Nat→Option CQ:=tblQ [(59,zaj_w),(60,zas_w)]
def zag_d0:=(dQS (qAa (dSO 0 dS) (qAa (dSO 5 (dH 0 0)) dNil)) (qAa qG2 (qAa (dRow .node 70) (qAa (dRow .i64 3) (qAa (dBag [.map] 107) dNil)))))
def zag_l0:SubQ:=mkL zag_d0 (fun x=>zag_p0 x.1.1 x.2.1.1 x.2.1.2.1 x.2.1.2.2.1 x.2.1.2.2.2.2.2.2.1 x.2.1.2.2.2.2.2.2.2.1 x.2.1.2.2.2.2.2.2.2.2.1 x.2.2.1 x.2.2.2.1 x.2.2.2.2.1) fun x r R kn kx kr=>(Sum.elim (fun (r_0:Int × Int × (List Eng.Node))=>kr ⟨[sL 2 (.own 0),sL 3 (.vI r_0.1),sL 4 (.vI r_0.2.1)],[],[.row .node 70 r_0.2.2]⟩) (fun (r_1:BA × Int × Int × BA × Int × Int × (List Eng.Node) × qCp)=>kx 0 ⟨[sL 0 (.vS x.1.1),sL 5 (.hd 0 0)],[],[.cells 82 [.vS r_1.1,.vI r_1.2.1,.vI r_1.2.2.1,.own 1,.own 2,.bsl 3,.vS r_1.2.2.2.1,.vI r_1.2.2.2.2.1,.vI r_1.2.2.2.2.2.1],.row .node 70 r_1.2.2.2.2.2.2.1,.row .i64 3 x.2.2.2.1,.bag [.map] 107 r_1.2.2.2.2.2.2.2]⟩)) r
def zag_L:Nat→SubQ:=tblL [(0,zag_l0)]
theorem zag_sub0:qA0 zag_L zag_G 0 6 45 0 zag_b0:=qAp (show zag_L 0=zag_l0 from by kernel_rfl) fun x R kn kx kr=>qAm (step:=fun y=>qB5 x.1.1 y.1 y.2.1 y.2.2.1 y.2.2.2.1 y.2.2.2.2.1 y.2.2.2.2.2.1 y.2.2.2.2.2.2.1 x.2.2.2.1 y.2.2.2.2.2.2.2) (enc:=fun (y:BA × Int × Int × BA × Int × Int × (List Eng.Node) × qCp)=>zag_d0.e (x.1,((y.1,y.2.1,y.2.2.1,x.2.1.2.2.2.1,x.2.1.2.2.2.2.1,x.2.1.2.2.2.2.2.1,y.2.2.2.1,y.2.2.2.2.1,y.2.2.2.2.2.1,x.2.1.2.2.2.2.2.2.2.2.2),y.2.2.2.2.2.2.1,x.2.2.2.1,y.2.2.2.2.2.2.2,x.2.2.2.2.2))) (fun y=>by kernel_rfl) (fun y ki=>by simp only [qB5,-eq_self,qAc,qAe,obA,obS,slL,slR,qAd]; kernel_rfl) (x.2.1.1,x.2.1.2.1,x.2.1.2.2.1,x.2.1.2.2.2.2.2.2.1,x.2.1.2.2.2.2.2.2.2.1,x.2.1.2.2.2.2.2.2.2.2.1,x.2.2.1,x.2.2.2.2.1)
def zag_c:CS:=mkC (qAa (dVC (dCO dS)) dNil) dNil (fun x y=>zag_s x.1) (fun x y r=>.tup [.o (.own 0),.o (.vI r.2.1),.o (.vI r.2.2)]) fun x y r=>[.row .node 70 r.1]
theorem zag_val:qAj Tryz.prog 52 zag_c:=vl1 zag_q [.tmp 2,.tmp 3,.tmp 4] 45 6 0 (show qAu zag_L zag_G 0 6 45 [(0,zag_b0)] from ⟨zag_sub0,tV⟩) (qAl ⟨zaj_ok,zas_ok,tV⟩) fun x y=>by
 simp only [zag_s,-eq_self,qAc,qAe,obA,obS,slL,slR,qAd];kernel_rfl
def zag_w:CQ:=qBs [] zag_c
theorem zag_ok:qAg Tryz.prog 52 zag_w:=qB3 zag_val
end
end Go.Proofs.YtpobbbpphnnnhaaGreatDoor
