/-
  Functions as the engine reads them (printed by gen.py).
-/
import Derived.Test.YtlmfmmgfiffjiaaGreatDoorEngO
import Derived.Test.YtlmfmmgfiffjiaaGreatDoorProg
import Derived.Test.YtlmfmmgfiffjiaaGreatDoorPDecRef
import Derived.Test.YtlmfmmgfiffjiaaGreatDoorEngPan
namespace Go.Proofs.YtlmfmmgfiffjiaaGreatDoor
open Go.Eng
set_option linter.unusedVariables false
set_option linter.unusedSimpArgs false
set_option maxRecDepth 100000
noncomputable section
abbrev qC1:Type:=List (MapC × Unit)
structure json_reader where
 text:BA
 at_:Int
 state:Int
 out:(List Eng.Node)
 open_:(List Int)
 names:qC1
 key:BA
 code:Int
 bad:Int
def zbe_b0:IQ:=(.loop [0] (.seq (.seq (.reg 59 (some [0,1,2,3,4,5,6,7,8,9,10,11,12,13,14,15,16,17,18,19,20,21,22,23,24,25,26,27,28,29,30,31,32,33,34,35,36,37,38,39,40,41,42,43,44,45,46,47,48,49,50,51,52,53,54,55,56,57]) (rF 2 t0 1++rF 6 t0 0++[oP 10 (.lenS t9),oP 11 (.bi .lss t5 t10),oM 12 t11]++rH oF 13 t0 0 12++rH oF 17 t0 1 12++[oF 21 (.index t16 t20) 12,oF 22 (.bi .eql t21 (vC 32)) 12,oF 23 (.mv t22) 12]++rH oE 24 t0 0 23++rH oE 28 t0 1 23++[oE 32 (.index t27 t31) 23,oE 33 (.bi .eql t32 (vC 9)) 23,oF 34 (.pick t23 vT t33) 12,oF 35 (.mv t34) 12]++rH oE 36 t0 0 35++rH oE 40 t0 1 35++[oE 44 (.index t39 t43) 35,oE 45 (.bi .eql t44 (vC 10)) 35,oF 46 (.pick t35 vT t45) 12,oF 47 (.mv t46) 12]++rH oE 48 t0 0 47++rH oE 52 t0 1 47++[oE 56 (.index t51 t55) 47,oE 57 (.bi .eql t56 (vC 13)) 47,oF 58 (.pick t47 vT t57) 12,oP 59 (.pick t12 t58 vF)])) (.cond t59 .skip (.cn [] (.exit 0)))) (.block 1 (rg 0 (rF 60 t0 1++[oP 64 (.bi .add t63 (vI 1))]++rS 65 t60 1 t64)))))
def zbe_q:IQ:=(.join [] [] (.block 0 (.cn [0] (.sub 0 zbe_b0))))
def zbe_p0_step (qGl:BA) (qGm:Int):Option (Int ⊕ Int) :=
 gd ((decide (qGm<(qGl.size:Int)))=true→0≤qGm∧qGm<qGl.size) <|
 gd ((decide ((bAt qGl qGm)=(32:Int)))=false→(decide (qGm<(qGl.size:Int)))=true→0≤qGm∧qGm<qGl.size) <|
 gd (((decide ((bAt qGl qGm)=(32:Int))) || (decide ((bAt qGl qGm)=(9:Int))))=false→(decide (qGm<(qGl.size:Int)))=true→0≤qGm∧qGm<qGl.size) <|
 gd ((((decide ((bAt qGl qGm)=(32:Int))) || (decide ((bAt qGl qGm)=(9:Int)))) || (decide ((bAt qGl qGm)=(10:Int))))=false→(decide (qGm<(qGl.size:Int)))=true→0≤qGm∧qGm<qGl.size) <|
 bif ((decide (qGm<(qGl.size:Int))) && ((((decide ((bAt qGl qGm)=(32:Int))) || (decide ((bAt qGl qGm)=(9:Int)))) || (decide ((bAt qGl qGm)=(10:Int)))) || (decide ((bAt qGl qGm)=(13:Int))))) then (
  gd (qAc (qGm+(1:Int))) <|
  some (.inl (qGm+(1:Int))))
 else (
  some (.inr qGm))
def zbe_p0 (qGl:BA) (qGm:Int):Option Int :=
 qAt (fun x:Int=>zbe_p0_step qGl x) qGm
def zbe_s (r_:json_reader):Option json_reader :=
 (zbe_p0 r_.text r_.at_).bind fun o2 =>
 some {r_ with at_:=o2:json_reader}
def zbe_G:Nat→Option CQ:=tblQ []
def qEm:=(qBi 79 (qAa dS (qAa dZ (qAa dZ (qAa (dO 1) (qAa (dO 2) (qAa (dBsl 3) (qAa dS (qAa dZ (qAa dZ dNil))))))))))
def zDJP2:=(qAa (qBa .i64) (qAa (dBag [.map] 118) dNil))
def zbe_d0:=(dQS (qAa (dSO 0 (dH 0 0)) dNil) (qAa qEm (qAa (qBa .node) zDJP2)))
def zbe_l0:SubQ:=mkL zbe_d0 (fun x=>zbe_p0 x.2.1.1 x.2.1.2.1) fun x r R kn kx kr=>kx 0 ⟨[],[],[.cells 79 [.vS x.2.1.1,.vI r,.vI x.2.1.2.2.1,.own 1,.own 2,.bsl 3,.vS x.2.1.2.2.2.2.2.2.1,.vI x.2.1.2.2.2.2.2.2.2.1,.vI x.2.1.2.2.2.2.2.2.2.2.1],.view .node x.2.2.1,.view .i64 x.2.2.2.1,.bag [.map] 118 x.2.2.2.2.1]⟩
def zbe_L:Nat→SubQ:=tblL [(0,zbe_l0)]
theorem zbe_sub0:qA0 zbe_L zbe_G 4 2 67 0 zbe_b0:=qAh (show zbe_L 0=zbe_l0 from by kernel_rfl) fun x R kn kx kr=>qAg (step:=fun y=>zbe_p0_step x.2.1.1 y) (enc:=fun (y:Int)=>zbe_d0.e (x.1,((x.2.1.1,y,x.2.1.2.2),x.2.2))) (fun y=>by kernel_rfl) (fun y ki=>by simp only [zbe_p0_step,-eq_self,sZ]; kernel_rfl) x.2.1.2.1
def zYJP0 (y:dTy (qAa qEm (qAa (qBa .node) zDJP2))):json_reader:=(⟨y.1.1,y.1.2.1,y.1.2.2.1,y.2.1,y.2.2.1,y.2.2.2.1,y.1.2.2.2.2.2.2.1,y.1.2.2.2.2.2.2.2.1,y.1.2.2.2.2.2.2.2.2.1⟩:json_reader)
def zbe_c:CS:=mkC (qAa (dVC (dCO (dH 0 0))) dNil) (qAa qEm (qAa (qBa .node) zDJP2)) (fun x y=>zbe_s (zYJP0 y)) (fun x y r=>.tup []) fun x y r=>[.cells 79 [.vS r.text,.vI r.at_,.vI r.state,.own 1,.own 2,.bsl 3,.vS r.key,.vI r.code,.vI r.bad],.view .node y.2.1,.view .i64 y.2.2.1,.bag [.map] 118 r.names]
theorem zbe_val:qAf Tryz.prog 42 zbe_c:=vl1 zbe_q [] 67 2 4 (show qA3 zbe_L zbe_G 4 2 67 [(0,zbe_b0)] from ⟨zbe_sub0,tV⟩) (fun f C h=>by cases h) fun x y=>by
 simp only [zbe_s,-eq_self,sZ];kernel_rfl
def zbe_w:CQ:=qBs [(0,some 3,some (.node,47)),(0,some 4,some (.i64,3)),(0,some 5,some ((.bag [.map]),118))] (qB4 [true,false,false,true] zbe_c)
theorem zbe_ok:qAe Tryz.prog 42 zbe_w:=qAv zbe_val
def zbl_q:IQ:=(.seq (rg 2 [oP 2 (.mv (vC 0))]) (.seq (.seq (.reg 12 (some [0,1,2,3,4,5,6,7,8,9]) (rF 3 t0 1++rF 7 t0 0++[oP 11 (.lenS t10),oP 12 (.bi .lss t6 t11)])) (.cond t12 (.seq (.reg 2 (some [0,1,2,3,4,5,6,7,8,9]) (rF 13 t0 0++rF 17 t0 1++[oP 21 (.index t16 t20),oM 2 t21])) (.cn [2] .ret)) .skip)) (.seq (rg 2 [oP 2 (.mv (vC 0))]) (.cn [2] .ret))))
def zbl_s (r_:json_reader):Option Int :=
 bif decide (r_.at_<(r_.text.size:Int)) then (
  gd (0≤r_.at_∧r_.at_<r_.text.size) <|
  some (bAt r_.text r_.at_))
 else (
  some (0:Int))
def zbl_c:CS:=mkC (qAa (dVC (dCO (dH 0 0))) dNil) (qAa qEm (qAa (qBa .node) zDJP2)) (fun x y=>zbl_s (zYJP0 y)) (fun x y r=>.c (.o (.val (.int .u8 r)))) fun x y r=>[.cells 79 [.vS y.1.1,.vI y.1.2.1,.vI y.1.2.2.1,.own 1,.own 2,.bsl 3,.vS y.1.2.2.2.2.2.2.1,.vI y.1.2.2.2.2.2.2.2.1,.vI y.1.2.2.2.2.2.2.2.2.1],.view .node y.2.1,.view .i64 y.2.2.1,.bag [.map] 118 y.2.2.2.1]
theorem zbl_val:qAf Tryz.prog 54 zbl_c:=vl0 zbl_q [.tmp 2] 22 3 4 [] trivial fun x y=>by
 simp only [zbl_s,-eq_self,sZ];kernel_rfl
def zbl_w:CQ:=qBs [(0,some 3,some (.node,47)),(0,some 4,some (.i64,3)),(0,some 5,some ((.bag [.map]),118))] (qB4 [true,false,false,true] zbl_c)
theorem zbl_ok:qAe Tryz.prog 54 zbl_w:=qAv zbl_val
def zbd_q:IQ:=(.join [] [] (.seq (rg 0 ([oM 2 t0]++rS 3 t2 2 (vI 5))) (.seq (rg 10 (rF 5 t0 4++[oP 9 (.len t8),oP 10 (.bi .eql t9 (vI 0))])) (.cond t10 (rg 0 ([oM 11 t0]++rS 12 t11 2 (vI 6))) .skip))))
def zbd_s (r_:json_reader):Option json_reader :=
 bif decide ((r_.open_.length:Int)=(0:Int)) then (
  some {r_ with state:=(6:Int):json_reader})
 else (
  some {r_ with state:=(5:Int):json_reader})
def zbd_c:CS:=mkC (qAa (dVC (dCO (dH 0 0))) dNil) (qAa qEm (qAa (qBa .node) zDJP2)) (fun x y=>zbd_s (zYJP0 y)) (fun x y r=>.tup []) fun x y r=>[.cells 79 [.vS r.text,.vI r.at_,.vI r.state,.own 1,.own 2,.bsl 3,.vS r.key,.vI r.code,.vI r.bad],.view .node y.2.1,.view .i64 y.2.2.1,.bag [.map] 118 r.names]
theorem zbd_val:qAf Tryz.prog 66 zbd_c:=vl0 zbd_q [] 14 2 4 [] trivial fun x y=>by
 simp only [zbd_s,-eq_self,sZ];kernel_rfl
def zbd_w:CQ:=qBs [(0,some 3,some (.node,47)),(0,some 4,some (.i64,3)),(0,some 5,some ((.bag [.map]),118))] (qB4 [true,false,false,true] zbd_c)
theorem zbd_ok:qAe Tryz.prog 66 zbd_w:=qAv zbd_val
def zbg_q:IQ:=(.seq (rg 2 [oP 2 (.mv vF)]) (.seq (rg 0 (rF 3 t0 1++[oP 7 (.bi .add t6 (vI 1))]++rS 8 t3 1 t7)) (.seq (.reg 0 (some [0,1,2,3,4,5,6,7,8,9,10,11,13,14,15,16,17,18,19,20,21,22,12,24,25,23,26,27,28,29]) ([oM 10 t0,oM 11 t0]++rF 12 t0 4++rF 16 t0 4++[oP 20 (.len t19),oP 21 (.bi .sub t20 (vI 1))]++rF 23 t0 5++rF 27 t0 5++[oP 31 (.len t30),oP 32 (.bi .sub t31 (vI 1)),oP 22 (.sub (some 1) t15 none (some t21)),oP 34 (.nk t10),oP 35 (.faddr 4 t34),oP 33 (.sub (some 1) t26 none (some t32)),oN (.store 1 t35 t22)]++rS 36 t11 5 t33)) (.seq (rg 39 [oM 38 t0,oP 39 (.call 66 [t38])]) (.seq (rg 2 [oP 2 (.mv vT)]) (.cn [2] .ret))))))
def zbg_s (r_:json_reader):Option (json_reader × Bool) :=
 gd (qAc (r_.at_+(1:Int))) <|
 gd (qAc ((r_.open_.length:Int) - (1:Int))) <|
 gd (qAc ((r_.names.length:Int) - (1:Int))) <|
 gd (0≤((r_.open_.length:Int) - (1:Int))∧((r_.open_.length:Int) - (1:Int))≤r_.open_.length) <|
 gd (0≤((r_.names.length:Int) - (1:Int))∧((r_.names.length:Int) - (1:Int))≤r_.names.length) <|
 (zbd_s {r_ with at_:=(r_.at_+(1:Int)),open_:=(r_.open_.take (Int.toNat ((r_.open_.length:Int) - (1:Int)))),names:=(r_.names.take (Int.toNat ((r_.names.length:Int) - (1:Int)))):json_reader}).bind fun r3 =>
 some ({r3 with out:=r_.out,open_:=(r_.open_.take (Int.toNat ((r_.open_.length:Int) - (1:Int)))):json_reader},true)
def zDJP3:=(qAa (dRow .i64 3) (qAa (dBag [.map] 118) dNil))
def zYJP1 (y:dTy (qAa qEm (qAa (qBa .node) zDJP3))):json_reader:=(⟨y.1.1,y.1.2.1,y.1.2.2.1,y.2.1,y.2.2.1,y.2.2.2.1,y.1.2.2.2.2.2.2.1,y.1.2.2.2.2.2.2.2.1,y.1.2.2.2.2.2.2.2.2.1⟩:json_reader)
def zbg_c:CS:=mkC (qAa (dVC (dCO (dH 0 0))) dNil) (qAa qEm (qAa (qBa .node) zDJP3)) (fun x y=>zbg_s (zYJP1 y)) (fun x y r=>.c (.o (.vB r.2))) fun x y r=>[.cells 79 [.vS r.1.text,.vI r.1.at_,.vI r.1.state,.own 1,.own 4,.bsl 5,.vS r.1.key,.vI r.1.code,.vI r.1.bad],.view .node y.2.1,.dead,.dead,.row .i64 3 r.1.open_,.bag [.map] 118 r.1.names]
theorem zbg_val:qAf Tryz.prog 55 zbg_c:=vl0 zbg_q [.tmp 2] 40 3 4 [(66,zbd_w)] ⟨zbd_ok,tV⟩ fun x y=>by
 simp only [zbg_s,-eq_self,sZ];kernel_rfl
def zbg_w:CQ:=qBs [(0,some 3,some (.node,47)),(0,some 4,some (.i64,3)),(0,some 5,some ((.bag [.map]),118))] (qB4 [true,false,true,true] zbg_c)
theorem zbg_ok:qAe Tryz.prog 55 zbg_w:=qAv zbg_val
def zbh_q:IQ:=(.seq (rg 6 [oP 6 (.mv vF)]) (.seq (rg 0 ([oM 7 t0,oM 8 t0,oM 9 t1,oM 10 t2]++rS 11 t7 7 t9++rS 13 t8 8 t10)) (.seq (rg 6 [oP 6 (.mv vF)]) (.cn [6] .ret))))
def zbh_s (r_:json_reader) (code at_:Int):Option (json_reader × Bool) :=
 some ({r_ with code:=code,bad:=at_:json_reader},false)
def zbh_c:CS:=mkC (qAa (dVC (dCO (dH 0 0))) (qAa (dVC (dCO dZ)) (qAa (dVC (dCO dZ)) dNil))) (qAa qEm (qAa (qBa .node) zDJP2)) (fun x y=>zbh_s (zYJP0 y) x.2.1 x.2.2.1) (fun x y r=>.c (.o (.vB r.2))) fun x y r=>[.cells 79 [.vS r.1.text,.vI r.1.at_,.vI r.1.state,.own 1,.own 2,.bsl 3,.vS r.1.key,.vI r.1.code,.vI r.1.bad],.view .node y.2.1,.view .i64 y.2.2.1,.bag [.map] 118 r.1.names]
theorem zbh_val:qAf Tryz.prog 72 zbh_c:=vl0 zbh_q [.tmp 6] 15 7 4 [] trivial fun x y=>by
 simp only [zbh_s,-eq_self,sZ];kernel_rfl
def zbh_w:CQ:=qBs [(0,some 3,some (.node,47)),(0,some 4,some (.i64,3)),(0,some 5,some ((.bag [.map]),118))] (qB4 [true,false,false,true] zbh_c)
theorem zbh_ok:qAe Tryz.prog 72 zbh_w:=qAv zbh_val
def zbi_q:IQ:=(.join [] [] (.seq (rg 3 [oP 3 (.box 47 6 t1)]) (.seq (rg 0 (rF 4 t0 6++[oP 8 (.faddr 1 t3),oN (.store 1 t8 t7)])) (.seq (rg 0 [oM 9 t0,oP 10 (.nk t9),oP 11 (.faddr 6 t10),oN (.store 1 t11 (.v (.string ⟨#[]⟩)))]) (.seq (.seq (rg 17 (rF 12 t0 4++[oP 16 (.len t15),oP 17 (.bi .gtr t16 (vI 0))])) (.cond t17 (.reg 0 (some [0,1,2,3,4,5,6,7,8,9,10,11,12,13,14,15,16,17,18,19,20,21,22]) (rF 18 t0 3++rF 22 t0 4++rF 26 t0 4++[oP 30 (.len t29),oP 31 (.bi .sub t30 (vI 1)),oP 32 (.iaddr 1 t25 t31),oP 33 (.load none t32),oP 34 (.iaddr 6 t21 t33),oP 35 (.faddr 5 t34),oP 36 (.load none t35),oP 37 (.bi .add t36 (vI 1)),oP 38 (.iaddr 6 t21 t33),oP 39 (.faddr 5 t38),oN (.store 1 t39 t37)])) .skip)) (.reg 0 (some [0,1,2,3,4,5,6,7,8,9,10]) ([oM 40 t0]++rF 41 t0 3++[oP 45 (.load (some 6) t3),oP 46 (.bslice 47 6 1 [.int .i64 0,.string ⟨#[]⟩,.string ⟨#[]⟩,.bool false,.int .i64 0,.int .i64 0] [(0,t45)]),oP 47 (.append 47 6 64 [.int .i64 0,.string ⟨#[]⟩,.string ⟨#[]⟩,.bool false,.int .i64 0,.int .i64 0] t44 t46)]++rS 48 t40 3 t47)))))))
def zbi_s (r_:json_reader) (n:Eng.Node):Option json_reader :=
 bif decide ((0:Int)<(r_.open_.length:Int)) then (
  gd (qAc ((r_.open_.length:Int) - (1:Int))) <|
  gd (0≤((r_.open_.length:Int) - (1:Int))∧((r_.open_.length:Int) - (1:Int))<r_.open_.length) <|
  gd ((Int.toNat ((r_.open_.length:Int) - (1:Int)))<r_.open_.length) <|
  gd (0≤(r_.open_.getD (Int.toNat ((r_.open_.length:Int) - (1:Int))) (ET.dft .i64))∧(r_.open_.getD (Int.toNat ((r_.open_.length:Int) - (1:Int))) (ET.dft .i64))<r_.out.length) <|
  gd ((Int.toNat (r_.open_.getD (Int.toNat ((r_.open_.length:Int) - (1:Int))) (ET.dft .i64)))<r_.out.length) <|
  gd ((Int.toNat (r_.open_.getD (Int.toNat ((r_.open_.length:Int) - (1:Int))) (ET.dft .i64)))<r_.out.length) <|
  gd (qAc (((r_.out.getD (Int.toNat (r_.open_.getD (Int.toNat ((r_.open_.length:Int) - (1:Int))) (ET.dft .i64))) (ET.dft .node)).kids)+(1:Int))) <|
  gd (0≤(r_.open_.getD (Int.toNat ((r_.open_.length:Int) - (1:Int))) (ET.dft .i64))∧(r_.open_.getD (Int.toNat ((r_.open_.length:Int) - (1:Int))) (ET.dft .i64))<r_.out.length) <|
  gd ((Int.toNat (r_.open_.getD (Int.toNat ((r_.open_.length:Int) - (1:Int))) (ET.dft .i64)))<r_.out.length) <|
  gd ((Int.toNat (r_.open_.getD (Int.toNat ((r_.open_.length:Int) - (1:Int))) (ET.dft .i64)))<r_.out.length) <|
  gd ((r_.out.set (Int.toNat (r_.open_.getD (Int.toNat ((r_.open_.length:Int) - (1:Int))) (ET.dft .i64))) (⟨(r_.out.getD (Int.toNat (r_.open_.getD (Int.toNat ((r_.open_.length:Int) - (1:Int))) (ET.dft .i64))) (ET.dft .node)).kind,(r_.out.getD (Int.toNat (r_.open_.getD (Int.toNat ((r_.open_.length:Int) - (1:Int))) (ET.dft .i64))) (ET.dft .node)).key,(r_.out.getD (Int.toNat (r_.open_.getD (Int.toNat ((r_.open_.length:Int) - (1:Int))) (ET.dft .i64))) (ET.dft .node)).text,(r_.out.getD (Int.toNat (r_.open_.getD (Int.toNat ((r_.open_.length:Int) - (1:Int))) (ET.dft .i64))) (ET.dft .node)).whole,(r_.out.getD (Int.toNat (r_.open_.getD (Int.toNat ((r_.open_.length:Int) - (1:Int))) (ET.dft .i64))) (ET.dft .node)).int,(((r_.out.getD (Int.toNat (r_.open_.getD (Int.toNat ((r_.open_.length:Int) - (1:Int))) (ET.dft .i64))) (ET.dft .node)).kids)+(1:Int))⟩:Eng.Node)).length+([(⟨n.kind,r_.key,n.text,n.whole,n.int,n.kids⟩:Eng.Node)]:List Eng.Node).length≤9223372036854775807∧((r_.out.set (Int.toNat (r_.open_.getD (Int.toNat ((r_.open_.length:Int) - (1:Int))) (ET.dft .i64))) (⟨(r_.out.getD (Int.toNat (r_.open_.getD (Int.toNat ((r_.open_.length:Int) - (1:Int))) (ET.dft .i64))) (ET.dft .node)).kind,(r_.out.getD (Int.toNat (r_.open_.getD (Int.toNat ((r_.open_.length:Int) - (1:Int))) (ET.dft .i64))) (ET.dft .node)).key,(r_.out.getD (Int.toNat (r_.open_.getD (Int.toNat ((r_.open_.length:Int) - (1:Int))) (ET.dft .i64))) (ET.dft .node)).text,(r_.out.getD (Int.toNat (r_.open_.getD (Int.toNat ((r_.open_.length:Int) - (1:Int))) (ET.dft .i64))) (ET.dft .node)).whole,(r_.out.getD (Int.toNat (r_.open_.getD (Int.toNat ((r_.open_.length:Int) - (1:Int))) (ET.dft .i64))) (ET.dft .node)).int,(((r_.out.getD (Int.toNat (r_.open_.getD (Int.toNat ((r_.open_.length:Int) - (1:Int))) (ET.dft .i64))) (ET.dft .node)).kids)+(1:Int))⟩:Eng.Node)).length+([(⟨n.kind,r_.key,n.text,n.whole,n.int,n.kids⟩:Eng.Node)]:List Eng.Node).length)*64≤140737488355328) <|
  some {r_ with out:=((r_.out.set (Int.toNat (r_.open_.getD (Int.toNat ((r_.open_.length:Int) - (1:Int))) (ET.dft .i64))) (⟨(r_.out.getD (Int.toNat (r_.open_.getD (Int.toNat ((r_.open_.length:Int) - (1:Int))) (ET.dft .i64))) (ET.dft .node)).kind,(r_.out.getD (Int.toNat (r_.open_.getD (Int.toNat ((r_.open_.length:Int) - (1:Int))) (ET.dft .i64))) (ET.dft .node)).key,(r_.out.getD (Int.toNat (r_.open_.getD (Int.toNat ((r_.open_.length:Int) - (1:Int))) (ET.dft .i64))) (ET.dft .node)).text,(r_.out.getD (Int.toNat (r_.open_.getD (Int.toNat ((r_.open_.length:Int) - (1:Int))) (ET.dft .i64))) (ET.dft .node)).whole,(r_.out.getD (Int.toNat (r_.open_.getD (Int.toNat ((r_.open_.length:Int) - (1:Int))) (ET.dft .i64))) (ET.dft .node)).int,(((r_.out.getD (Int.toNat (r_.open_.getD (Int.toNat ((r_.open_.length:Int) - (1:Int))) (ET.dft .i64))) (ET.dft .node)).kids)+(1:Int))⟩:Eng.Node))++[(⟨n.kind,r_.key,n.text,n.whole,n.int,n.kids⟩:Eng.Node)]),key:=(⟨#[]⟩:BA):json_reader})
 else (
  gd (r_.out.length+([(⟨n.kind,r_.key,n.text,n.whole,n.int,n.kids⟩:Eng.Node)]:List Eng.Node).length≤9223372036854775807∧(r_.out.length+([(⟨n.kind,r_.key,n.text,n.whole,n.int,n.kids⟩:Eng.Node)]:List Eng.Node).length)*64≤140737488355328) <|
  some {r_ with out:=(r_.out++[(⟨n.kind,r_.key,n.text,n.whole,n.int,n.kids⟩:Eng.Node)]),key:=(⟨#[]⟩:BA):json_reader})
def zYJP2 (y:dTy (qAa qEm (qAa (dRow .node 47) zDJP2))):json_reader:=(⟨y.1.1,y.1.2.1,y.1.2.2.1,y.2.1,y.2.2.1,y.2.2.2.1,y.1.2.2.2.2.2.2.1,y.1.2.2.2.2.2.2.2.1,y.1.2.2.2.2.2.2.2.2.1⟩:json_reader)
def zbi_c:CS:=mkC (qAa (dVC (dCO (dH 0 0))) (qAa (dVC (dCA (qAa dZ (qAa dS (qAa dS (qAa dB (qAa dZ (qAa dZ dNil)))))))) dNil)) (qAa qEm (qAa (dRow .node 47) zDJP2)) (fun x y=>zbi_s (zYJP2 y) (⟨x.2.1.1,x.2.1.2.1,x.2.1.2.2.1,x.2.1.2.2.2.1,x.2.1.2.2.2.2.1,x.2.1.2.2.2.2.2.1⟩:Eng.Node)) (fun x y r=>.tup []) fun x y r=>[.cells 79 [.vS r.text,.vI r.at_,.vI r.state,.own 4,.own 2,.bsl 3,.vS r.key,.vI r.code,.vI r.bad],.dead,.view .i64 y.2.2.1,.bag [.map] 118 r.names,.row .node 47 r.out]
theorem zbi_val:qAf Tryz.prog 69 zbi_c:=vl0 zbi_q [] 50 4 4 [] trivial fun x y=>by
 simp only [zbi_s,-eq_self,sZ];kernel_rfl
def zbi_w:CQ:=qBs [(0,some 3,some (.node,47)),(0,some 4,some (.i64,3)),(0,some 5,some ((.bag [.map]),118))] (qB4 [true,true,false,true] zbi_c)
theorem zbi_ok:qAe Tryz.prog 69 zbi_w:=qAv zbi_val
def zbc_b0:IQ:=(.seq (rg 39 [oM 37 t0,oP 38 (.load (some 6) t5),oP 39 (.call 69 [t37,t38])]) (.seq (.regT 0 (.one ⟨(some 40),.mv t0,none⟩ (.one ⟨(some 41),.mv t0,none⟩ (.one ⟨(some 42),.mv t0,none⟩ (.one ⟨(some 43),.nk t42,none⟩ (.one ⟨(some 44),.faddr 4 t43,none⟩ (.one ⟨(some 46),.mv t0,none⟩ (.one ⟨(some 47),.nk t46,none⟩ (.one ⟨(some 48),.faddr 3 t47,none⟩ (.one ⟨(some 54),.mv t0,none⟩ (.one ⟨(some 55),.nk t54,none⟩ (.one ⟨(some 56),.faddr 5 t55,none⟩ (.one ⟨(some 58),.mv t6,none⟩ (.wk ⟨(some 45),.load none t44,none⟩ (.wk ⟨(some 49),.load none t48,none⟩ (.one ⟨(some 50),.len t49,none⟩ (.one ⟨(some 51),.bi .sub t50 (vI 1),none⟩ (.wk ⟨(some 57),.load none t56,none⟩ (.alt ⟨(some 52),.bslice 3 1 1 [.int .i64 0] [(0,t51)],none⟩ (.alt ⟨(some 53),.append 3 1 8 [.int .i64 0] t45 t52,none⟩ (.one ⟨(some 59),.bslice 118 1 1 [.map none] [(0,t58)],none⟩ (.one ⟨(some 60),.append 118 1 8 [.map none] t57 t59,none⟩ (.one ⟨(some 61),.nk t40,none⟩ (.one ⟨(some 62),.faddr 4 t61,none⟩ (.one ⟨none,.store 1 t62 t53,none⟩ (.one ⟨(some 63),.nk t41,none⟩ (.one ⟨(some 64),.faddr 5 t63,none⟩ (.one ⟨none,.store 1 t64 t60,none⟩ .fin)))))))) (.alt ⟨(some 59),.bslice 118 1 1 [.map none] [(0,t58)],none⟩ (.one ⟨(some 53),.append 3 1 8 [.int .i64 0] t45 t52,none⟩ (.one ⟨(some 60),.append 118 1 8 [.map none] t57 t59,none⟩ (.one ⟨(some 61),.nk t40,none⟩ (.one ⟨(some 62),.faddr 4 t61,none⟩ (.one ⟨none,.store 1 t62 t53,none⟩ (.one ⟨(some 63),.nk t41,none⟩ (.one ⟨(some 64),.faddr 5 t63,none⟩ (.one ⟨none,.store 1 t64 t60,none⟩ .fin)))))))) .stop)) (.alt ⟨(some 59),.bslice 118 1 1 [.map none] [(0,t58)],none⟩ (.one ⟨(some 52),.bslice 3 1 1 [.int .i64 0] [(0,t51)],none⟩ (.one ⟨(some 53),.append 3 1 8 [.int .i64 0] t45 t52,none⟩ (.one ⟨(some 60),.append 118 1 8 [.map none] t57 t59,none⟩ (.one ⟨(some 61),.nk t40,none⟩ (.one ⟨(some 62),.faddr 4 t61,none⟩ (.one ⟨none,.store 1 t62 t53,none⟩ (.one ⟨(some 63),.nk t41,none⟩ (.one ⟨(some 64),.faddr 5 t63,none⟩ (.one ⟨none,.store 1 t64 t60,none⟩ .fin))))))))) .stop)))))))))))))))))))) (.seq (rg 4 [oP 4 (.mv vT)]) (.canon [(1000000,some 3,.u8,0),(3000001,none,.u8,0),(1000000,some 4,.u8,0),(3000002,none,.u8,0),(1000000,some 5,.u8,0),(3000003,none,.u8,0)] [4] .ret))))
def zbc_q:IQ:=(.seq (rg 4 [oP 4 (.mv vF)]) (.seq (.seq (rg 12 (rF 7 t0 4++[oP 11 (.len t10),oP 12 (.bi .eql t11 (vI 32))])) (.cond t12 (.seq (rg 4 ([oM 13 t0]++rF 14 t0 1++[oP 18 (.call 72 [t13,(vI 11),t17]),oM 4 t18])) (.canon [(1000000,some 3,.u8,0),(3000001,none,.u8,0),(1000000,some 4,.u8,0),(3000002,none,.u8,0),(1000000,some 5,.u8,0),(3000003,none,.u8,0)] [4] .ret)) .skip)) (.seq (rg 0 (rF 19 t0 1++[oP 23 (.bi .add t22 (vI 1))]++rS 24 t19 1 t23)) (.seq (rg 0 [oP 26 (.build [.int .i64 0,.string ⟨#[]⟩,.string ⟨#[]⟩,.bool false,.int .i64 0,.int .i64 0] [(0,1,(vI 6))]),oP 5 (.alloc 47 [.int .i64 0,.string ⟨#[]⟩,.string ⟨#[]⟩,.bool false,.int .i64 0,.int .i64 0]),oN (.store 6 t5 t26)]) (.seq (rg 0 ([oM 27 t0]++rS 28 t27 2 (vI 1))) (.seq (rg 6 [oP 6 (.mv (.v (.map none)))]) (.seq (.seq (rg 31 [oM 30 t1,oP 31 (.bi .eql t30 (vC 123))]) (.cond t31 (.seq (rg 0 [oP 32 (.faddr 0 t5),oN (.store 1 t32 (vI 7))]) (.seq (rg 0 ([oM 33 t0]++rS 34 t33 2 (vI 3))) (rg 6 [oP 36 (.ext .mkmap []),oM 6 t36]))) .skip)) (.canon [(6,none,.mp,0)] [0,5,6] (.sub 0 zbc_b0)))))))))
def zbc_p0 (qGl:BA) (qGm qGw:Int) (qHb:BA) (qG3 qHa:Int) (qG1:List Eng.Node) (qGr:List Int) (qGv:qC1) (qHv:Int) (qIr qHn:BA) (qH5:Bool) (qIq qHz:Int) (names:MapC):Option (Bool × BA × Int × Int × BA × Int × Int × (List Eng.Node) × (List Int) × qC1) :=
 (zbi_s (⟨qGl,qGm,qGw,qG1,qGr,qGv,qHb,qG3,qHa⟩:json_reader) (⟨qHv,qIr,qHn,qH5,qIq,qHz⟩:Eng.Node)).bind fun r12 =>
 gd (qAc ((r12.out.length:Int) - (1:Int))) <|
 gd (qGr.length+([((r12.out.length:Int) - (1:Int))]:List Int).length≤9223372036854775807∧(qGr.length+([((r12.out.length:Int) - (1:Int))]:List Int).length)*8≤140737488355328) <|
 gd (r12.names.length+([(names,())]:qC1).length≤9223372036854775807∧(r12.names.length+([(names,())]:qC1).length)*8≤140737488355328) <|
 some (true,r12.text,r12.at_,r12.state,r12.key,r12.code,r12.bad,r12.out,(qGr++[((r12.out.length:Int) - (1:Int))]),(r12.names++[(names,())]))
def zbc_s (r_:json_reader) (c:Int):Option (json_reader × Bool) :=
 bif decide ((r_.open_.length:Int)=(32:Int)) then (
  (zbh_s r_ (11:Int) r_.at_).bind fun r11 =>
  some ({r11.1 with out:=r_.out,open_:=r_.open_:json_reader},r11.2))
 else (
  gd (qAc (r_.at_+(1:Int))) <|
  bif decide (c=(123:Int)) then (
   (zbc_p0 r_.text (r_.at_+(1:Int)) (3:Int) r_.key r_.code r_.bad r_.out r_.open_ r_.names (7:Int) (⟨#[]⟩:BA) (⟨#[]⟩:BA) false (0:Int) (0:Int) (some [])).bind fun o13 =>
   some ((⟨o13.2.1,o13.2.2.1,o13.2.2.2.1,o13.2.2.2.2.2.2.2.1,o13.2.2.2.2.2.2.2.2.1,o13.2.2.2.2.2.2.2.2.2,o13.2.2.2.2.1,o13.2.2.2.2.2.1,o13.2.2.2.2.2.2.1⟩:json_reader),o13.1))
  else (
   (zbc_p0 r_.text (r_.at_+(1:Int)) (1:Int) r_.key r_.code r_.bad r_.out r_.open_ r_.names (6:Int) (⟨#[]⟩:BA) (⟨#[]⟩:BA) false (0:Int) (0:Int) none).bind fun o14 =>
   some ((⟨o14.2.1,o14.2.2.1,o14.2.2.2.1,o14.2.2.2.2.2.2.2.1,o14.2.2.2.2.2.2.2.2.1,o14.2.2.2.2.2.2.2.2.2,o14.2.2.2.2.1,o14.2.2.2.2.2.1,o14.2.2.2.2.2.2.1⟩:json_reader),o14.1)))
def zbc_G:Nat→Option CQ:=tblQ [(72,zbh_w),(69,zbi_w)]
def zbc_d0:=(dQS (qAa (dSO 0 (dH 0 0)) (qAa (dSO 5 (dH 4 0)) (qAa (dSO 6 (dO 5)) dNil))) (qAa qEm (qAa (dRow .node 47) (qAa (dRow .i64 3) (qAa (dBag [.map] 118) (qAa (qBi 47 (qAa dZ (qAa dS (qAa dS (qAa dB (qAa dZ (qAa dZ dNil))))))) (qAa dMap dNil)))))))
def zbc_l0:SubQ:=fun S R kn kx kr=>(Dec.d zbc_d0 S).bind fun x=>(zbc_p0 x.2.1.1 x.2.1.2.1 x.2.1.2.2.1 x.2.1.2.2.2.2.2.2.1 x.2.1.2.2.2.2.2.2.2.1 x.2.1.2.2.2.2.2.2.2.2.1 x.2.2.1 x.2.2.2.1 x.2.2.2.2.1 x.2.2.2.2.2.1.1 x.2.2.2.2.2.1.2.1 x.2.2.2.2.2.1.2.2.1 x.2.2.2.2.2.1.2.2.2.1 x.2.2.2.2.2.1.2.2.2.2.1 x.2.2.2.2.2.1.2.2.2.2.2.1 x.2.2.2.2.2.2.1).bind fun r=>kr ⟨[sL 4 (.vB r.1)],[],[.cells 79 [.vS r.2.1,.vI r.2.2.1,.vI r.2.2.2.1,.own 4,.own 5,.bsl 6,.vS r.2.2.2.2.1,.vI r.2.2.2.2.2.1,.vI r.2.2.2.2.2.2.1],.dead,.dead,.dead,.row .node 47 r.2.2.2.2.2.2.2.1,.row .i64 3 r.2.2.2.2.2.2.2.2.1,.bag [.map] 118 r.2.2.2.2.2.2.2.2.2]⟩
def zbc_L:Nat→SubQ:=tblL [(0,zbc_l0)]
theorem zbc_p0_eq (qGl:BA) (qGm qGw:Int) (qHb:BA) (qG3 qHa:Int) (qG1:List Eng.Node) (qGr:List Int) (qGv:qC1) (qHv:Int) (qIr qHn:BA) (qH5:Bool) (qIq qHz:Int) (names:MapC) (R:Type) (kn:QS→Option R) (kx:Nat→QS→Option R) (kr:QS→Option R) :
  Le ((zbc_p0 qGl qGm qGw qHb qG3 qHa qG1 qGr qGv qHv qIr qHn qH5 qIq qHz names).bind fun r=>kr ⟨[sL 4 (.vB r.1)],[],[.cells 79 [.vS r.2.1,.vI r.2.2.1,.vI r.2.2.2.1,.own 4,.own 5,.bsl 6,.vS r.2.2.2.2.1,.vI r.2.2.2.2.2.1,.vI r.2.2.2.2.2.2.1],.dead,.dead,.dead,.row .node 47 r.2.2.2.2.2.2.2.1,.row .i64 3 r.2.2.2.2.2.2.2.2.1,.bag [.map] 118 r.2.2.2.2.2.2.2.2.2]⟩) (qA8 zbc_L zbc_G 4 7 65 zbc_b0 ⟨[sL 0 (.hd 0 0),sL 5 (.hd 4 0),sL 6 (.own 5)],[],[.cells 79 [.vS qGl,.vI qGm,.vI qGw,.own 1,.own 2,.bsl 3,.vS qHb,.vI qG3,.vI qHa],.row .node 47 qG1,.row .i64 3 qGr,.bag [.map] 118 qGv,.cells 47 [.vI qHv,.vS qIr,.vS qHn,.vB qH5,.vI qIq,.vI qHz],.map names]⟩ kn kx kr):=by
 have h:∀K:(Bool × BA × Int × Int × BA × Int × Int × (List Eng.Node) × (List Int) × qC1)→Option R,Le ((zbc_p0 qGl qGm qGw qHb qG3 qHa qG1 qGr qGv qHv qIr qHn qH5 qIq qHz names).bind K) (
  (zbi_s (⟨qGl,qGm,qGw,qG1,qGr,qGv,qHb,qG3,qHa⟩:json_reader) (⟨qHv,qIr,qHn,qH5,qIq,qHz⟩:Eng.Node)).bind fun r12 =>
  gd (qAc ((r12.out.length:Int) - (1:Int))) <|
  all2 (
   all2d (
    gd (qGr.length+([((r12.out.length:Int) - (1:Int))]:List Int).length≤9223372036854775807∧(qGr.length+([((r12.out.length:Int) - (1:Int))]:List Int).length)*8≤140737488355328) <|
    gd (r12.names.length+([(names,())]:qC1).length≤9223372036854775807∧(r12.names.length+([(names,())]:qC1).length)*8≤140737488355328) <|
    (K) (true,r12.text,r12.at_,r12.state,r12.key,r12.code,r12.bad,r12.out,(qGr++[((r12.out.length:Int) - (1:Int))]),(r12.names++[(names,())])))) (
   gd (qGr.length+([((r12.out.length:Int) - (1:Int))]:List Int).length≤9223372036854775807∧(qGr.length+([((r12.out.length:Int) - (1:Int))]:List Int).length)*8≤140737488355328) <|
   gd (r12.names.length+([(names,())]:qC1).length≤9223372036854775807∧(r12.names.length+([(names,())]:qC1).length)*8≤140737488355328) <|
   (K) (true,r12.text,r12.at_,r12.state,r12.key,r12.code,r12.bad,r12.out,(qGr++[((r12.out.length:Int) - (1:Int))]),(r12.names++[(names,())])))):=fun K=>by
  unfold zbc_p0;repeat' (first | exact Le.refl _ | refine Le.gdb ?_ | refine Le.condb ?_ ?_ | refine Le.all2d ?_ | refine Le.all2b ?_ ?_ | refine Le.bindb (fun _=>?_) | refine Le.elimb (fun _=>?_) (fun _=>?_))
 exact (h _).trans (Le.of_eq (by kernel_rfl))
theorem zbc_sub0:qA0 zbc_L zbc_G 4 7 65 0 zbc_b0:=sub_le zbc_d0 (fun x R kn kx kr=>(zbc_p0 x.2.1.1 x.2.1.2.1 x.2.1.2.2.1 x.2.1.2.2.2.2.2.2.1 x.2.1.2.2.2.2.2.2.2.1 x.2.1.2.2.2.2.2.2.2.2.1 x.2.2.1 x.2.2.2.1 x.2.2.2.2.1 x.2.2.2.2.2.1.1 x.2.2.2.2.2.1.2.1 x.2.2.2.2.2.1.2.2.1 x.2.2.2.2.2.1.2.2.2.1 x.2.2.2.2.2.1.2.2.2.2.1 x.2.2.2.2.2.1.2.2.2.2.2.1 x.2.2.2.2.2.2.1).bind fun r=>kr ⟨[sL 4 (.vB r.1)],[],[.cells 79 [.vS r.2.1,.vI r.2.2.1,.vI r.2.2.2.1,.own 4,.own 5,.bsl 6,.vS r.2.2.2.2.1,.vI r.2.2.2.2.2.1,.vI r.2.2.2.2.2.2.1],.dead,.dead,.dead,.row .node 47 r.2.2.2.2.2.2.2.1,.row .i64 3 r.2.2.2.2.2.2.2.2.1,.bag [.map] 118 r.2.2.2.2.2.2.2.2.2]⟩) (by kernel_rfl) fun x R kn kx kr=>zbc_p0_eq x.2.1.1 x.2.1.2.1 x.2.1.2.2.1 x.2.1.2.2.2.2.2.2.1 x.2.1.2.2.2.2.2.2.2.1 x.2.1.2.2.2.2.2.2.2.2.1 x.2.2.1 x.2.2.2.1 x.2.2.2.2.1 x.2.2.2.2.2.1.1 x.2.2.2.2.2.1.2.1 x.2.2.2.2.2.1.2.2.1 x.2.2.2.2.2.1.2.2.2.1 x.2.2.2.2.2.1.2.2.2.2.1 x.2.2.2.2.2.1.2.2.2.2.2.1 x.2.2.2.2.2.2.1 R kn kx kr
def zDJP6:=(qAa (dVC (dCO (dI .u8))) dNil)
def zYJP3 (y:dTy (qAa qEm (qAa (dRow .node 47) zDJP3))):json_reader:=(⟨y.1.1,y.1.2.1,y.1.2.2.1,y.2.1,y.2.2.1,y.2.2.2.1,y.1.2.2.2.2.2.2.1,y.1.2.2.2.2.2.2.2.1,y.1.2.2.2.2.2.2.2.2.1⟩:json_reader)
def zbc_c:CS:=mkC (qAa (dVC (dCO (dH 0 0))) zDJP6) (qAa qEm (qAa (dRow .node 47) zDJP3)) (fun x y=>zbc_s (zYJP3 y) x.2.1) (fun x y r=>.c (.o (.vB r.2))) fun x y r=>[.cells 79 [.vS r.1.text,.vI r.1.at_,.vI r.1.state,.own 4,.own 5,.bsl 6,.vS r.1.key,.vI r.1.code,.vI r.1.bad],.dead,.dead,.dead,.row .node 47 r.1.out,.row .i64 3 r.1.open_,.bag [.map] 118 r.1.names]
theorem zbc_val:qAf Tryz.prog 67 zbc_c:=vl1 zbc_q [.tmp 4] 65 7 4 (show qA3 zbc_L zbc_G 4 7 65 [(0,zbc_b0)] from ⟨zbc_sub0,tV⟩) (qAq ⟨zbh_ok,zbi_ok,tV⟩) fun x y=>by
 simp only [zbc_s,-eq_self,sZ];kernel_rfl
def zbc_w:CQ:=qBs [(0,some 3,some (.node,47)),(0,some 4,some (.i64,3)),(0,some 5,some ((.bag [.map]),118))] (qB4 [true,true,true,true] zbc_c)
theorem zbc_ok:qAe Tryz.prog 67 zbc_w:=qAv zbc_val
def zbn_b0:IQ:=(.loop [0,4] (.block 1 (.seq (.seq (.reg 26 (some [0,1,2,3,4,5,6,7,8,9]) (rF 17 t0 1++rF 21 t0 0++[oP 25 (.lenS t24),oP 26 (.bi .eql t20 t25)])) (.cond t26 (.seq (rg 3 [oM 27 t0,oP 28 (.call 57 [t27]),oP 2 (.mv (.v (.string ⟨#[]⟩))),oM 3 t28]) (.cn [2,3] .ret)) .skip)) (.seq (.reg 5 (some [0,1,2,3,4,5,6,7,8,9]) (rF 29 t0 0++rF 33 t0 1++[oP 37 (.index t32 t36),oM 5 t37])) (.block 2 (.seq (rg 70 [oM 71 t5,oP 72 (.bi .eql t71 (vC 34)),oM 70 t72]) (.cond t70 (.seq (rg 0 (rF 73 t0 1++[oP 77 (.bi .add t76 (vI 1))]++rS 78 t73 1 t77)) (.seq (rg 3 [oM 80 t4,oP 81 (.ext .toStr [t80]),oM 2 t81,oP 3 (.mv vT)]) (.cn [2,3] .ret))) (.seq (rg 82 [oM 83 t5,oP 84 (.bi .eql t83 (vC 92)),oM 82 t84]) (.cond t82 (.seq (rg 7 [oM 86 t0,oP 87 (.call 76 [t86]),oM 85 t87,oP 88 (.extract t85 0),oP 89 (.extract t85 1),oM 6 t88,oM 7 t89]) (.seq (.seq (rg 91 [oM 90 t7,oP 91 (.un .not t90)]) (.cond t91 (.seq (rg 3 [oP 2 (.mv (.v (.string ⟨#[]⟩))),oP 3 (.mv vF)]) (.cn [2,3] .ret)) .skip)) (rg 4 [oM 92 t4,oM 93 t6,oP 94 (.call 77 [t92,t93]),oM 4 t94]))) (.seq (rg 95 [oM 96 t5,oP 97 (.bi .lss t96 (vC 32)),oM 95 t97]) (.cond t95 (.seq (rg 3 [oM 98 t0,oP 99 (.call 57 [t98]),oP 2 (.mv (.v (.string ⟨#[]⟩))),oM 3 t99]) (.cn [2,3] .ret)) (.seq (rg 100 [oM 101 t5,oP 102 (.bi .lss t101 (vC 128)),oM 100 t102]) (.cond t100 (.seq (rg 4 [oM 103 t4,oM 104 t5,oP 105 (.bslice 5 1 1 [.int .u8 0] [(0,t104)]),oP 106 (.append 5 1 1 [.int .u8 0] t103 t105),oM 4 t106]) (rg 0 (rF 107 t0 1++[oP 111 (.bi .add t110 (vI 1))]++rS 112 t107 1 t111))) (.seq (rg 9 [oM 39 t0,oP 40 (.call 78 [t39]),oM 38 t40,oP 41 (.extract t38 0),oP 42 (.extract t38 1),oM 8 t41,oM 9 t42]) (.seq (.seq (rg 44 [oM 43 t9,oP 44 (.un .not t43)]) (.cond t44 (.seq (rg 3 [oP 2 (.mv (.v (.string ⟨#[]⟩))),oP 3 (.mv vF)]) (.cn [2,3] .ret)) .skip)) (.seq (.reg 4 (some [0,1,2,3,4,5,6,7,8,9,10,11,12,13,14,15,16,17]) ([oM 45 t4]++rF 46 t0 0++rF 50 t0 1++rF 54 t0 1++[oM 58 t8,oP 59 (.bi .add t57 t58),oP 60 (.sub none t49 (some t53) (some t59)),oP 61 (.ext (.appStr 5) [t45,t60]),oM 4 t61])) (rg 0 (rF 62 t0 1++[oM 66 t8,oP 67 (.bi .add t65 t66)]++rS 68 t62 1 t67))))))))))))))))))
def zbn_q:IQ:=(.seq (rg 3 [oP 2 (.mv (.v (.string ⟨#[]⟩))),oP 3 (.mv vF)]) (.seq (rg 4 [oP 4 (.mv (.v (.slice none 0 0)))]) (.seq (rg 0 (rF 10 t0 1++[oP 14 (.bi .add t13 (vI 1))]++rS 15 t10 1 t14)) (.block 0 (.canon [(4,none,.u8,5)] [0,4] (.sub 0 zbn_b0))))))
def zbn_p0_step (qGl:BA) (qGm:Int) (b:List Int):Option ((Int × (List Int)) ⊕ (BA × Bool × Int)) :=
 bif decide (qGm=(qGl.size:Int)) then (
  none)
 else (
  gd (0≤qGm∧qGm<qGl.size) <|
  bif decide ((bAt qGl qGm)=(34:Int)) then (
   gd (qAc (qGm+(1:Int))) <|
   some (.inr ((qF7 b),true,(qGm+(1:Int)))))
  else (
   bif decide ((bAt qGl qGm)=(92:Int)) then (
    none)
   else (
    bif decide ((bAt qGl qGm)<(32:Int)) then (
     none)
    else (
     bif decide ((bAt qGl qGm)<(128:Int)) then (
      gd (b.length+([(bAt qGl qGm)]:List Int).length≤9223372036854775807∧(b.length+([(bAt qGl qGm)]:List Int).length)*1≤140737488355328) <|
      gd (qAc (qGm+(1:Int))) <|
      some (.inl ((qGm+(1:Int)),(b++[(bAt qGl qGm)]))))
     else (
      none)))))
def zbn_p0 (qGl:BA) (qGm:Int) (b:List Int):Option (BA × Bool × Int) :=
 qAt (fun x:(Int × (List Int))=>zbn_p0_step qGl x.1 x.2) (qGm,b)
def zbn_s (r_:json_reader):Option (json_reader × BA × Bool) :=
 gd (qAc (r_.at_+(1:Int))) <|
 (zbn_p0 r_.text (r_.at_+(1:Int)) []).bind fun o2 =>
 some ({r_ with at_:=o2.2.2:json_reader},o2.1,o2.2.1)
def zbn_G:Nat→Option CQ:=tblQ []
def zbn_d0:=(dQS (qAa (dSO 0 (dH 0 0)) (qAa (dSO 4 (dO 4)) dNil)) (qAa qEm (qAa (qBa .node) (qAa (qBa .i64) (qAa (dBag [.map] 118) (qAa (dRow .u8 5) dNil))))))
def zbn_l0:SubQ:=mkL zbn_d0 (fun x=>zbn_p0 x.2.1.1 x.2.1.2.1 x.2.2.2.2.2.1) fun x r R kn kx kr=>kr ⟨[sL 2 (.vS r.1),sL 3 (.vB r.2.1)],[],[.cells 79 [.vS x.2.1.1,.vI r.2.2,.vI x.2.1.2.2.1,.own 1,.own 2,.bsl 3,.vS x.2.1.2.2.2.2.2.2.1,.vI x.2.1.2.2.2.2.2.2.2.1,.vI x.2.1.2.2.2.2.2.2.2.2.1],.view .node x.2.2.1,.view .i64 x.2.2.2.1,.bag [.map] 118 x.2.2.2.2.1]⟩
def zbn_L:Nat→SubQ:=tblL [(0,zbn_l0)]
theorem zbn_sub0:qA0 zbn_L zbn_G 4 10 114 0 zbn_b0:=qAh (show zbn_L 0=zbn_l0 from by kernel_rfl) fun x R kn kx kr=>qAg (step:=fun y=>zbn_p0_step x.2.1.1 y.1 y.2) (enc:=fun (y:Int × (List Int))=>zbn_d0.e (x.1,((x.2.1.1,y.1,x.2.1.2.2),x.2.2.1,x.2.2.2.1,x.2.2.2.2.1,y.2,x.2.2.2.2.2.2))) (fun y=>by kernel_rfl) (fun y ki=>by simp only [zbn_p0_step,-eq_self,sZ]; kernel_rfl) (x.2.1.2.1,x.2.2.2.2.2.1)
def zbn_c:CS:=mkC (qAa (dVC (dCO (dH 0 0))) dNil) (qAa qEm (qAa (qBa .node) zDJP2)) (fun x y=>zbn_s (zYJP0 y)) (fun x y r=>.tup [.o (.vS r.2.1),.o (.vB r.2.2)]) fun x y r=>[.cells 79 [.vS r.1.text,.vI r.1.at_,.vI r.1.state,.own 1,.own 2,.bsl 3,.vS r.1.key,.vI r.1.code,.vI r.1.bad],.view .node y.2.1,.view .i64 y.2.2.1,.bag [.map] 118 r.1.names]
theorem zbn_val:qAf Tryz.prog 68 zbn_c:=vl1 zbn_q [.tmp 2,.tmp 3] 114 10 4 (show qA3 zbn_L zbn_G 4 10 114 [(0,zbn_b0)] from ⟨zbn_sub0,tV⟩) (fun f C h=>by cases h) fun x y=>by
 simp only [zbn_s,-eq_self,sZ];kernel_rfl
def zbn_w:CQ:=qBs [(0,some 3,some (.node,47)),(0,some 4,some (.i64,3)),(0,some 5,some ((.bag [.map]),118))] (qB4 [true,false,false,true] zbn_c)
theorem zbn_ok:qAe Tryz.prog 68 zbn_w:=qAv zbn_val
def zbf_b0:IQ:=(.loop [0,4] (.seq (.seq (rg 22 [oM 17 t4,oP 18 (.bi .geq t17 (vC 48)),oM 19 t18,oF 20 (.mv t4) 19,oF 21 (.bi .leq t20 (vC 57)) 19,oP 22 (.pick t19 t21 vF)]) (.cond t22 .skip (.cn [] (.exit 0)))) (.seq (.block 1 (rg 0 (rF 25 t0 1++[oP 29 (.bi .add t28 (vI 1))]++rS 30 t25 1 t29))) (rg 4 [oM 23 t0,oP 24 (.call 54 [t23]),oM 4 t24]))))
def zbf_q:IQ:=(.seq (rg 2 [oP 2 (.mv vF)]) (.seq (.seq (rg 3 [oM 5 t0,oP 6 (.call 54 [t5]),oM 3 t6]) (.seq (rg 12 [oM 7 t3,oP 8 (.bi .lss t7 (vC 48)),oM 9 t8,oE 10 (.mv t3) 9,oE 11 (.bi .gtr t10 (vC 57)) 9,oP 12 (.pick t9 vT t11)]) (.cond t12 (.seq (rg 2 [oM 13 t0,oP 14 (.call 57 [t13]),oM 2 t14]) (.cn [2] .ret)) .skip))) (.seq (.seq (rg 4 [oM 15 t0,oP 16 (.call 54 [t15]),oM 4 t16]) (.block 0 (.cn [0,4] (.sub 0 zbf_b0)))) (.seq (rg 2 [oP 2 (.mv vT)]) (.cn [2] .ret)))))
def zbf_p0_step (c:Int) (qGl:BA) (qGm qGw:Int) (qHb:BA) (qG3 qHa:Int) (qG1:List Eng.Node) (qGr:List Int) (qGv:qC1):Option ((Int × Int) ⊕ Int) :=
 bif ((decide ((48:Int)≤c)) && (decide (c≤(57:Int)))) then (
  gd (qAc (qGm+(1:Int))) <|
  (zbl_s (⟨qGl,(qGm+(1:Int)),qGw,qG1,qGr,qGv,qHb,qG3,qHa⟩:json_reader)).bind fun r13 =>
  some (.inl (r13,(qGm+(1:Int)))))
 else (
  some (.inr qGm))
def zbf_p0 (c:Int) (qGl:BA) (qGm qGw:Int) (qHb:BA) (qG3 qHa:Int) (qG1:List Eng.Node) (qGr:List Int) (qGv:qC1):Option Int :=
 qAt (fun x:(Int × Int)=>zbf_p0_step x.1 qGl x.2 qGw qHb qG3 qHa qG1 qGr qGv) (c,qGm)
def zbf_s (r_:json_reader):Option (json_reader × Bool) :=
 (zbl_s r_).bind fun r11 =>
 bif ((decide (r11<(48:Int))) || (decide ((57:Int)<r11))) then (
  none)
 else (
  (zbl_s r_).bind fun r12 =>
  (zbf_p0 r12 r_.text r_.at_ r_.state r_.key r_.code r_.bad r_.out r_.open_ r_.names).bind fun o14 =>
  some ({r_ with at_:=o14:json_reader},true))
def zbf_G:Nat→Option CQ:=tblQ [(54,zbl_w)]
def zbf_d0:=(dQS (qAa (dSO 0 (dH 0 0)) (qAa (dSO 4 (dI .u8)) dNil)) (qAa qEm (qAa (qBa .node) zDJP2)))
def zbf_l0:SubQ:=mkL zbf_d0 (fun x=>zbf_p0 x.1.2.1 x.2.1.1 x.2.1.2.1 x.2.1.2.2.1 x.2.1.2.2.2.2.2.2.1 x.2.1.2.2.2.2.2.2.2.1 x.2.1.2.2.2.2.2.2.2.2.1 x.2.2.1 x.2.2.2.1 x.2.2.2.2.1) fun x r R kn kx kr=>kx 0 ⟨[],[],[.cells 79 [.vS x.2.1.1,.vI r,.vI x.2.1.2.2.1,.own 1,.own 2,.bsl 3,.vS x.2.1.2.2.2.2.2.2.1,.vI x.2.1.2.2.2.2.2.2.2.1,.vI x.2.1.2.2.2.2.2.2.2.2.1],.view .node x.2.2.1,.view .i64 x.2.2.2.1,.bag [.map] 118 x.2.2.2.2.1]⟩
def zbf_L:Nat→SubQ:=tblL [(0,zbf_l0)]
theorem zbf_sub0:qA0 zbf_L zbf_G 4 5 32 0 zbf_b0:=qAh (show zbf_L 0=zbf_l0 from by kernel_rfl) fun x R kn kx kr=>qAg (step:=fun y=>zbf_p0_step y.1 x.2.1.1 y.2 x.2.1.2.2.1 x.2.1.2.2.2.2.2.2.1 x.2.1.2.2.2.2.2.2.2.1 x.2.1.2.2.2.2.2.2.2.2.1 x.2.2.1 x.2.2.2.1 x.2.2.2.2.1) (enc:=fun (y:Int × Int)=>zbf_d0.e ((x.1.1,y.1,x.1.2.2),((x.2.1.1,y.2,x.2.1.2.2),x.2.2))) (fun y=>by kernel_rfl) (fun y ki=>by simp only [zbf_p0_step,-eq_self,sZ]; kernel_rfl) (x.1.2.1,x.2.1.2.1)
def zbf_c:CS:=mkC (qAa (dVC (dCO (dH 0 0))) dNil) (qAa qEm (qAa (qBa .node) zDJP2)) (fun x y=>zbf_s (zYJP0 y)) (fun x y r=>.c (.o (.vB r.2))) fun x y r=>[.cells 79 [.vS r.1.text,.vI r.1.at_,.vI r.1.state,.own 1,.own 2,.bsl 3,.vS r.1.key,.vI r.1.code,.vI r.1.bad],.view .node y.2.1,.view .i64 y.2.2.1,.bag [.map] 118 r.1.names]
theorem zbf_val:qAf Tryz.prog 79 zbf_c:=vl1 zbf_q [.tmp 2] 32 5 4 (show qA3 zbf_L zbf_G 4 5 32 [(0,zbf_b0)] from ⟨zbf_sub0,tV⟩) (qAq ⟨zbl_ok,tV⟩) fun x y=>by
 simp only [zbf_s,-eq_self,sZ];kernel_rfl
def zbf_w:CQ:=qBs [(0,some 3,some (.node,47)),(0,some 4,some (.i64,3)),(0,some 5,some ((.bag [.map]),118))] (qB4 [true,false,false,true] zbf_c)
theorem zbf_ok:qAe Tryz.prog 79 zbf_w:=qAv zbf_val
def zbm_b3:IQ:=(.seq (.reg 0 (some [0,1,2,3,4,5,6,7,8,9,10,11,12]) (rF 80 t0 0++[oM 84 t3]++rF 85 t0 1++[oP 89 (.sub none t83 (some t84) (some t88)),oP 90 (.build [.int .i64 0,.string ⟨#[]⟩,.string ⟨#[]⟩,.bool false,.int .i64 0,.int .i64 0] [(0,1,(vI 4)),(2,1,t89)]),oP 6 (.alloc 47 [.int .i64 0,.string ⟨#[]⟩,.string ⟨#[]⟩,.bool false,.int .i64 0,.int .i64 0]),oN (.store 6 t6 t90)])) (.seq (rg 0 [oP 92 (.faddr 2 t6),oP 93 (.load none t92),oP 94 (.call 80 [t93]),oM 91 t94,oP 95 (.extract t91 0),oP 96 (.extract t91 1),oP 97 (.faddr 4 t6),oN (.store 1 t97 t95),oP 98 (.faddr 3 t6),oN (.store 1 t98 t96)]) (.seq (rg 101 [oM 99 t0,oP 100 (.load (some 6) t6),oP 101 (.call 69 [t99,t100])]) (.seq (rg 103 [oM 102 t0,oP 103 (.call 66 [t102])]) (.seq (rg 2 [oP 2 (.mv vT)]) (.canon [(1000000,some 3,.u8,0),(3000001,none,.u8,0)] [2] .ret))))))
def zbm_b2:IQ:=(.seq (.seq (rg 4 [oM 47 t0,oP 48 (.call 54 [t47]),oM 4 t48]) (.seq (rg 54 [oM 49 t4,oP 50 (.bi .eql t49 (vC 101)),oM 51 t50,oE 52 (.mv t4) 51,oE 53 (.bi .eql t52 (vC 69)) 51,oP 54 (.pick t51 vT t53)]) (.cond t54 (.seq (rg 0 (rF 55 t0 1++[oP 59 (.bi .add t58 (vI 1))]++rS 60 t55 1 t59)) (.seq (.seq (rg 5 [oM 62 t0,oP 63 (.call 54 [t62]),oM 5 t63]) (.seq (rg 69 [oM 64 t5,oP 65 (.bi .eql t64 (vC 43)),oM 66 t65,oE 67 (.mv t5) 66,oE 68 (.bi .eql t67 (vC 45)) 66,oP 69 (.pick t66 vT t68)]) (.cond t69 (rg 0 (rF 70 t0 1++[oP 74 (.bi .add t73 (vI 1))]++rS 75 t70 1 t74)) .skip))) (.seq (rg 79 [oM 77 t0,oP 78 (.call 79 [t77]),oP 79 (.un .not t78)]) (.cond t79 (.seq (rg 2 [oP 2 (.mv vF)]) (.canon [(1000000,some 3,.u8,0),(3000001,none,.u8,0)] [2] .ret)) .skip)))) .skip))) (.cn [0,3] (.sub 3 zbm_b3)))
def zbm_b1:IQ:=(.seq (.seq (rg 36 [oM 34 t0,oP 35 (.call 54 [t34]),oP 36 (.bi .eql t35 (vC 46))]) (.cond t36 (.seq (rg 0 (rF 37 t0 1++[oP 41 (.bi .add t40 (vI 1))]++rS 42 t37 1 t41)) (.seq (rg 46 [oM 44 t0,oP 45 (.call 79 [t44]),oP 46 (.un .not t45)]) (.cond t46 (.seq (rg 2 [oP 2 (.mv vF)]) (.canon [(1000000,some 3,.u8,0),(3000001,none,.u8,0)] [2] .ret)) .skip))) .skip)) (.cn [0,3] (.sub 2 zbm_b2)))
def zbm_b0:IQ:=(.seq (.seq (rg 23 [oM 21 t0,oP 22 (.call 54 [t21]),oP 23 (.bi .eql t22 (vC 48))]) (.cond t23 (rg 0 (rF 24 t0 1++[oP 28 (.bi .add t27 (vI 1))]++rS 29 t24 1 t28)) (.seq (rg 33 [oM 31 t0,oP 32 (.call 79 [t31]),oP 33 (.un .not t32)]) (.cond t33 (.seq (rg 2 [oP 2 (.mv vF)]) (.canon [(1000000,some 3,.u8,0),(3000001,none,.u8,0)] [2] .ret)) .skip)))) (.cn [0,3] (.sub 1 zbm_b1)))
def zbm_q:IQ:=(.seq (rg 2 [oP 2 (.mv vF)]) (.seq (rg 3 (rF 7 t0 1++[oM 3 t10])) (.seq (.seq (rg 13 [oM 11 t0,oP 12 (.call 54 [t11]),oP 13 (.bi .eql t12 (vC 45))]) (.cond t13 (rg 0 (rF 14 t0 1++[oP 18 (.bi .add t17 (vI 1))]++rS 19 t14 1 t18)) .skip)) (.cn [0,3] (.sub 0 zbm_b0)))))
def zbm_p3 (from_:Int) (qGl:BA) (qGm qGw:Int) (qHb:BA) (qG3 qHa:Int) (qG1:List Eng.Node) (qGr:List Int) (qGv:qC1):Option (Bool × BA × Int × Int × BA × Int × Int × qC1 × (List Eng.Node)) :=
 gd (0≤from_∧from_≤qGm∧qGm≤qGl.size) <|
 (zaf_s (qGl.extract (Int.toNat from_) (Int.toNat qGm))).bind fun r73 =>
 (zbi_s (⟨qGl,qGm,qGw,qG1,qGr,qGv,qHb,qG3,qHa⟩:json_reader) (⟨(4:Int),(⟨#[]⟩:BA),(qGl.extract (Int.toNat from_) (Int.toNat qGm)),r73.2,r73.1,(0:Int)⟩:Eng.Node)).bind fun r74 =>
 (zbd_s {r74 with open_:=qGr:json_reader}).bind fun r75 =>
 some (true,r75.text,r75.at_,r75.state,r75.key,r75.code,r75.bad,r75.names,r74.out)
def zbm_p2 (from_:Int) (qGl:BA) (qGm qGw:Int) (qHb:BA) (qG3 qHa:Int) (qG1:List Eng.Node) (qGr:List Int) (qGv:qC1):Option (Bool × BA × Int × Int × BA × Int × Int × qC1 × (List Eng.Node)) :=
 (zbl_s (⟨qGl,qGm,qGw,qG1,qGr,qGv,qHb,qG3,qHa⟩:json_reader)).bind fun r70 =>
 bif ((decide (r70=(101:Int))) || (decide (r70=(69:Int)))) then (
  gd (qAc (qGm+(1:Int))) <|
  (zbl_s (⟨qGl,(qGm+(1:Int)),qGw,qG1,qGr,qGv,qHb,qG3,qHa⟩:json_reader)).bind fun r71 =>
  bif ((decide (r71=(43:Int))) || (decide (r71=(45:Int)))) then (
   gd (qAc ((qGm+(1:Int))+(1:Int))) <|
   (zbf_s (⟨qGl,((qGm+(1:Int))+(1:Int)),qGw,qG1,qGr,qGv,qHb,qG3,qHa⟩:json_reader)).bind fun r72 =>
   bif (!r72.2) then (
    some (false,r72.1.text,r72.1.at_,r72.1.state,r72.1.key,r72.1.code,r72.1.bad,r72.1.names,qG1))
   else (
    (zbm_p3 from_ r72.1.text r72.1.at_ r72.1.state r72.1.key r72.1.code r72.1.bad qG1 qGr r72.1.names).bind fun o76 =>
    some (o76.1,o76.2.1,o76.2.2.1,o76.2.2.2.1,o76.2.2.2.2.1,o76.2.2.2.2.2.1,o76.2.2.2.2.2.2.1,o76.2.2.2.2.2.2.2.1,o76.2.2.2.2.2.2.2.2)))
  else (
   (zbf_s (⟨qGl,(qGm+(1:Int)),qGw,qG1,qGr,qGv,qHb,qG3,qHa⟩:json_reader)).bind fun r77 =>
   bif (!r77.2) then (
    some (false,r77.1.text,r77.1.at_,r77.1.state,r77.1.key,r77.1.code,r77.1.bad,r77.1.names,qG1))
   else (
    (zbm_p3 from_ r77.1.text r77.1.at_ r77.1.state r77.1.key r77.1.code r77.1.bad qG1 qGr r77.1.names).bind fun o78 =>
    some (o78.1,o78.2.1,o78.2.2.1,o78.2.2.2.1,o78.2.2.2.2.1,o78.2.2.2.2.2.1,o78.2.2.2.2.2.2.1,o78.2.2.2.2.2.2.2.1,o78.2.2.2.2.2.2.2.2))))
 else (
  (zbm_p3 from_ qGl qGm qGw qHb qG3 qHa qG1 qGr qGv).bind fun o79 =>
  some (o79.1,o79.2.1,o79.2.2.1,o79.2.2.2.1,o79.2.2.2.2.1,o79.2.2.2.2.2.1,o79.2.2.2.2.2.2.1,o79.2.2.2.2.2.2.2.1,o79.2.2.2.2.2.2.2.2))
def zbm_p1 (from_:Int) (qGl:BA) (qGm qGw:Int) (qHb:BA) (qG3 qHa:Int) (qG1:List Eng.Node) (qGr:List Int) (qGv:qC1):Option (Bool × BA × Int × Int × BA × Int × Int × qC1 × (List Eng.Node)) :=
 (zbl_s (⟨qGl,qGm,qGw,qG1,qGr,qGv,qHb,qG3,qHa⟩:json_reader)).bind fun r68 =>
 bif decide (r68=(46:Int)) then (
  gd (qAc (qGm+(1:Int))) <|
  (zbf_s (⟨qGl,(qGm+(1:Int)),qGw,qG1,qGr,qGv,qHb,qG3,qHa⟩:json_reader)).bind fun r69 =>
  bif (!r69.2) then (
   some (false,r69.1.text,r69.1.at_,r69.1.state,r69.1.key,r69.1.code,r69.1.bad,r69.1.names,qG1))
  else (
   (zbm_p2 from_ r69.1.text r69.1.at_ r69.1.state r69.1.key r69.1.code r69.1.bad qG1 qGr r69.1.names).bind fun o80 =>
   some (o80.1,o80.2.1,o80.2.2.1,o80.2.2.2.1,o80.2.2.2.2.1,o80.2.2.2.2.2.1,o80.2.2.2.2.2.2.1,o80.2.2.2.2.2.2.2.1,o80.2.2.2.2.2.2.2.2)))
 else (
  (zbm_p2 from_ qGl qGm qGw qHb qG3 qHa qG1 qGr qGv).bind fun o81 =>
  some (o81.1,o81.2.1,o81.2.2.1,o81.2.2.2.1,o81.2.2.2.2.1,o81.2.2.2.2.2.1,o81.2.2.2.2.2.2.1,o81.2.2.2.2.2.2.2.1,o81.2.2.2.2.2.2.2.2))
def zbm_p0 (from_:Int) (qGl:BA) (qGm qGw:Int) (qHb:BA) (qG3 qHa:Int) (qG1:List Eng.Node) (qGr:List Int) (qGv:qC1):Option (Bool × BA × Int × Int × BA × Int × Int × qC1 × (List Eng.Node)) :=
 (zbl_s (⟨qGl,qGm,qGw,qG1,qGr,qGv,qHb,qG3,qHa⟩:json_reader)).bind fun r67 =>
 bif decide (r67=(48:Int)) then (
  gd (qAc (qGm+(1:Int))) <|
  (zbm_p1 from_ qGl (qGm+(1:Int)) qGw qHb qG3 qHa qG1 qGr qGv).bind fun o82 =>
  some (o82.1,o82.2.1,o82.2.2.1,o82.2.2.2.1,o82.2.2.2.2.1,o82.2.2.2.2.2.1,o82.2.2.2.2.2.2.1,o82.2.2.2.2.2.2.2.1,o82.2.2.2.2.2.2.2.2))
 else (
  (zbf_s (⟨qGl,qGm,qGw,qG1,qGr,qGv,qHb,qG3,qHa⟩:json_reader)).bind fun r83 =>
  bif (!r83.2) then (
   some (false,r83.1.text,r83.1.at_,r83.1.state,r83.1.key,r83.1.code,r83.1.bad,r83.1.names,qG1))
  else (
   (zbm_p1 from_ r83.1.text r83.1.at_ r83.1.state r83.1.key r83.1.code r83.1.bad qG1 qGr r83.1.names).bind fun o84 =>
   some (o84.1,o84.2.1,o84.2.2.1,o84.2.2.2.1,o84.2.2.2.2.1,o84.2.2.2.2.2.1,o84.2.2.2.2.2.2.1,o84.2.2.2.2.2.2.2.1,o84.2.2.2.2.2.2.2.2)))
def zbm_s (r_:json_reader):Option (json_reader × Bool) :=
 (zbl_s r_).bind fun r66 =>
 bif decide (r66=(45:Int)) then (
  gd (qAc (r_.at_+(1:Int))) <|
  (zbm_p0 r_.at_ r_.text (r_.at_+(1:Int)) r_.state r_.key r_.code r_.bad r_.out r_.open_ r_.names).bind fun o85 =>
  some ((⟨o85.2.1,o85.2.2.1,o85.2.2.2.1,o85.2.2.2.2.2.2.2.2,r_.open_,o85.2.2.2.2.2.2.2.1,o85.2.2.2.2.1,o85.2.2.2.2.2.1,o85.2.2.2.2.2.2.1⟩:json_reader),o85.1))
 else (
  (zbm_p0 r_.at_ r_.text r_.at_ r_.state r_.key r_.code r_.bad r_.out r_.open_ r_.names).bind fun o86 =>
  some ((⟨o86.2.1,o86.2.2.1,o86.2.2.2.1,o86.2.2.2.2.2.2.2.2,r_.open_,o86.2.2.2.2.2.2.2.1,o86.2.2.2.2.1,o86.2.2.2.2.2.1,o86.2.2.2.2.2.2.1⟩:json_reader),o86.1))
def zbm_G:Nat→Option CQ:=tblQ [(54,zbl_w),(79,zbf_w),(80,zaf_w),(69,zbi_w),(66,zbd_w)]
def zDJP4:=(qAa (dSO 0 (dH 0 0)) (qAa (dSO 3 dZ) dNil))
def zDJP5:=(qAa qEm (qAa (dRow .node 47) zDJP2))
def zbm_d3:=(dQS zDJP4 zDJP5)
def zbm_l3:SubQ:=mkL zbm_d3 (fun x=>zbm_p3 x.1.2.1 x.2.1.1 x.2.1.2.1 x.2.1.2.2.1 x.2.1.2.2.2.2.2.2.1 x.2.1.2.2.2.2.2.2.2.1 x.2.1.2.2.2.2.2.2.2.2.1 x.2.2.1 x.2.2.2.1 x.2.2.2.2.1) fun x r R kn kx kr=>kr ⟨[sL 2 (.vB r.1)],[],[.cells 79 [.vS r.2.1,.vI r.2.2.1,.vI r.2.2.2.1,.own 4,.own 2,.bsl 3,.vS r.2.2.2.2.1,.vI r.2.2.2.2.2.1,.vI r.2.2.2.2.2.2.1],.dead,.view .i64 x.2.2.2.1,.bag [.map] 118 r.2.2.2.2.2.2.2.1,.row .node 47 r.2.2.2.2.2.2.2.2]⟩
def zbm_d2:=(dQS zDJP4 zDJP5)
def zbm_l2:SubQ:=mkL zbm_d2 (fun x=>zbm_p2 x.1.2.1 x.2.1.1 x.2.1.2.1 x.2.1.2.2.1 x.2.1.2.2.2.2.2.2.1 x.2.1.2.2.2.2.2.2.2.1 x.2.1.2.2.2.2.2.2.2.2.1 x.2.2.1 x.2.2.2.1 x.2.2.2.2.1) fun x r R kn kx kr=>kr ⟨[sL 2 (.vB r.1)],[],[.cells 79 [.vS r.2.1,.vI r.2.2.1,.vI r.2.2.2.1,.own 4,.own 2,.bsl 3,.vS r.2.2.2.2.1,.vI r.2.2.2.2.2.1,.vI r.2.2.2.2.2.2.1],.dead,.view .i64 x.2.2.2.1,.bag [.map] 118 r.2.2.2.2.2.2.2.1,.row .node 47 r.2.2.2.2.2.2.2.2]⟩
def zbm_d1:=(dQS zDJP4 zDJP5)
def zbm_l1:SubQ:=mkL zbm_d1 (fun x=>zbm_p1 x.1.2.1 x.2.1.1 x.2.1.2.1 x.2.1.2.2.1 x.2.1.2.2.2.2.2.2.1 x.2.1.2.2.2.2.2.2.2.1 x.2.1.2.2.2.2.2.2.2.2.1 x.2.2.1 x.2.2.2.1 x.2.2.2.2.1) fun x r R kn kx kr=>kr ⟨[sL 2 (.vB r.1)],[],[.cells 79 [.vS r.2.1,.vI r.2.2.1,.vI r.2.2.2.1,.own 4,.own 2,.bsl 3,.vS r.2.2.2.2.1,.vI r.2.2.2.2.2.1,.vI r.2.2.2.2.2.2.1],.dead,.view .i64 x.2.2.2.1,.bag [.map] 118 r.2.2.2.2.2.2.2.1,.row .node 47 r.2.2.2.2.2.2.2.2]⟩
def zbm_d0:=(dQS zDJP4 zDJP5)
def zbm_l0:SubQ:=mkL zbm_d0 (fun x=>zbm_p0 x.1.2.1 x.2.1.1 x.2.1.2.1 x.2.1.2.2.1 x.2.1.2.2.2.2.2.2.1 x.2.1.2.2.2.2.2.2.2.1 x.2.1.2.2.2.2.2.2.2.2.1 x.2.2.1 x.2.2.2.1 x.2.2.2.2.1) fun x r R kn kx kr=>kr ⟨[sL 2 (.vB r.1)],[],[.cells 79 [.vS r.2.1,.vI r.2.2.1,.vI r.2.2.2.1,.own 4,.own 2,.bsl 3,.vS r.2.2.2.2.1,.vI r.2.2.2.2.2.1,.vI r.2.2.2.2.2.2.1],.dead,.view .i64 x.2.2.2.1,.bag [.map] 118 r.2.2.2.2.2.2.2.1,.row .node 47 r.2.2.2.2.2.2.2.2]⟩
def zbm_L:Nat→SubQ:=tblL [(3,zbm_l3),(2,zbm_l2),(1,zbm_l1),(0,zbm_l0)]
theorem zbm_sub3:qA0 zbm_L zbm_G 4 7 104 3 zbm_b3:=qAh (show zbm_L 3=zbm_l3 from by kernel_rfl) fun x R kn kx kr=>by
 simp only [zbm_p3,-eq_self,sZ];kernel_rfl
theorem zbm_sub2:qA0 zbm_L zbm_G 4 7 104 2 zbm_b2:=qAh (show zbm_L 2=zbm_l2 from by kernel_rfl) fun x R kn kx kr=>by
 simp only [zbm_p2,-eq_self,sZ];kernel_rfl
theorem zbm_sub1:qA0 zbm_L zbm_G 4 7 104 1 zbm_b1:=qAh (show zbm_L 1=zbm_l1 from by kernel_rfl) fun x R kn kx kr=>by
 simp only [zbm_p1,-eq_self,sZ];kernel_rfl
theorem zbm_sub0:qA0 zbm_L zbm_G 4 7 104 0 zbm_b0:=qAh (show zbm_L 0=zbm_l0 from by kernel_rfl) fun x R kn kx kr=>by
 simp only [zbm_p0,-eq_self,sZ];kernel_rfl
def zbm_c:CS:=mkC (qAa (dVC (dCO (dH 0 0))) dNil) (qAa qEm (qAa (dRow .node 47) zDJP2)) (fun x y=>zbm_s (zYJP2 y)) (fun x y r=>.c (.o (.vB r.2))) fun x y r=>[.cells 79 [.vS r.1.text,.vI r.1.at_,.vI r.1.state,.own 4,.own 2,.bsl 3,.vS r.1.key,.vI r.1.code,.vI r.1.bad],.dead,.view .i64 y.2.2.1,.bag [.map] 118 r.1.names,.row .node 47 r.1.out]
theorem zbm_val:qAf Tryz.prog 70 zbm_c:=vl1 zbm_q [.tmp 2] 104 7 4 (show qA3 zbm_L zbm_G 4 7 104 [(0,zbm_b0),(1,zbm_b1),(2,zbm_b2),(3,zbm_b3)] from ⟨zbm_sub0,zbm_sub1,zbm_sub2,zbm_sub3,tV⟩) (qAq ⟨zbl_ok,zbf_ok,zaf_ok,zbi_ok,zbd_ok,tV⟩) fun x y=>by
 simp only [zbm_s,-eq_self,sZ];kernel_rfl
def zbm_w:CQ:=qBs [(0,some 3,some (.node,47)),(0,some 4,some (.i64,3)),(0,some 5,some ((.bag [.map]),118))] (qB4 [true,true,false,true] zbm_c)
theorem zbm_ok:qAe Tryz.prog 70 zbm_w:=qAv zbm_val
def zbp_q:IQ:=(.seq (rg 4 [oP 4 (.mv vF)]) (.seq (.block 0 (.seq (rg 7 [oM 8 t1,oP 9 (.bi .eql t8 (vC 91)),oM 10 t9,oE 11 (.mv t1) 10,oE 12 (.bi .eql t11 (vC 123)) 10,oP 13 (.pick t10 vT t12),oM 7 t13]) (.cond t7 (.seq (rg 4 [oM 14 t0,oM 15 t1,oP 16 (.call 67 [t14,t15]),oM 4 t16]) (.canon [(1000000,some 3,.u8,0),(3000001,none,.u8,0),(1000000,some 4,.u8,0),(3000002,none,.u8,0),(1000000,some 5,.u8,0),(3000003,none,.u8,0)] [4] .ret)) (.seq (rg 17 [oM 18 t1,oP 19 (.bi .eql t18 (vC 34)),oM 17 t19]) (.cond t17 (.seq (rg 6 [oM 21 t0,oP 22 (.call 68 [t21]),oM 20 t22,oP 23 (.extract t20 0),oP 24 (.extract t20 1),oM 5 t23,oM 6 t24]) (.seq (.seq (rg 25 [oM 25 t6]) (.cond t25 (.seq (rg 29 [oM 26 t0,oM 27 t5,oP 28 (.build [.int .i64 0,.string ⟨#[]⟩,.string ⟨#[]⟩,.bool false,.int .i64 0,.int .i64 0] [(0,1,(vI 5)),(2,1,t27)]),oP 29 (.call 69 [t26,t28])]) (rg 31 [oM 30 t0,oP 31 (.call 66 [t30])])) .skip)) (.seq (rg 4 [oM 32 t6,oM 4 t32]) (.canon [(1000000,some 3,.u8,0),(3000001,none,.u8,0),(1000000,some 4,.u8,0),(3000002,none,.u8,0),(1000000,some 5,.u8,0),(3000003,none,.u8,0)] [4] .ret)))) (.seq (rg 33 [oM 34 t1,oP 35 (.bi .eql t34 (vC 45)),oM 36 t35,oE 37 (.mv t1) 36,oE 38 (.bi .geq t37 (vC 48)) 36,oE 39 (.mv t38) 36,oF 40 (.mv t1) 39,oF 41 (.bi .leq t40 (vC 57)) 39,oE 42 (.pick t39 t41 vF) 36,oP 43 (.pick t36 vT t42),oM 33 t43]) (.cond t33 (.seq (rg 4 [oM 44 t0,oP 45 (.call 70 [t44]),oM 4 t45]) (.canon [(1000000,some 3,.u8,0),(3000001,none,.u8,0),(1000000,some 4,.u8,0),(3000002,none,.u8,0),(1000000,some 5,.u8,0),(3000003,none,.u8,0)] [4] .ret)) (.seq (rg 46 [oM 47 t1,oP 48 (.bi .eql t47 (vC 110)),oM 46 t48]) (.cond t46 (.seq (rg 4 [oM 49 t0,oP 50 (.call 71 [t49,(.v (.string ⟨#[110,117,108,108]⟩)),(vI 1)]),oM 4 t50]) (.cn [4] .ret)) (.seq (rg 51 [oM 52 t1,oP 53 (.bi .eql t52 (vC 102)),oM 51 t53]) (.cond t51 (.seq (rg 4 [oM 54 t0,oP 55 (.call 71 [t54,(.v (.string ⟨#[102,97,108,115,101]⟩)),(vI 2)]),oM 4 t55]) (.cn [4] .ret)) (.seq (rg 56 [oM 57 t1,oP 58 (.bi .eql t57 (vC 116)),oM 56 t58]) (.cond t56 (.seq (rg 4 [oM 59 t0,oP 60 (.call 71 [t59,(.v (.string ⟨#[116,114,117,101]⟩)),(vI 3)]),oM 4 t60]) (.cn [4] .ret)) .skip))))))))))))) (.seq (rg 4 [oM 61 t0,oP 62 (.call 57 [t61]),oM 4 t62]) (.cn [4] .ret))))
def zbp_s (r_:json_reader) (c:Int):Option (json_reader × Bool) :=
 bif ((decide (c=(91:Int))) || (decide (c=(123:Int)))) then (
  (zbc_s r_ c).bind fun r10 =>
  some (r10.1,r10.2))
 else (
  bif decide (c=(34:Int)) then (
   (zbn_s r_).bind fun r11 =>
   bif r11.2.2 then (
    (zbi_s {r11.1 with out:=r_.out,open_:=r_.open_:json_reader} (⟨(5:Int),(⟨#[]⟩:BA),r11.2.1,false,(0:Int),(0:Int)⟩:Eng.Node)).bind fun r12 =>
    (zbd_s {r12 with open_:=r_.open_:json_reader}).bind fun r13 =>
    some ({r13 with out:=r12.out,open_:=r_.open_:json_reader},r11.2.2))
   else (
    some ({r11.1 with out:=r_.out,open_:=r_.open_:json_reader},r11.2.2)))
  else (
   bif ((decide (c=(45:Int))) || ((decide ((48:Int)≤c)) && (decide (c≤(57:Int))))) then (
    (zbm_s r_).bind fun r14 =>
    some ({r14.1 with open_:=r_.open_:json_reader},r14.2))
   else (
    bif decide (c=(110:Int)) then (
     none)
    else (
     bif decide (c=(102:Int)) then (
      none)
     else (
      bif decide (c=(116:Int)) then (
       none)
      else (
       none))))))
def zbp_c:CS:=mkC (qAa (dVC (dCO (dH 0 0))) zDJP6) (qAa qEm (qAa (dRow .node 47) zDJP3)) (fun x y=>zbp_s (zYJP3 y) x.2.1) (fun x y r=>.c (.o (.vB r.2))) fun x y r=>[.cells 79 [.vS r.1.text,.vI r.1.at_,.vI r.1.state,.own 4,.own 5,.bsl 6,.vS r.1.key,.vI r.1.code,.vI r.1.bad],.dead,.dead,.dead,.row .node 47 r.1.out,.row .i64 3 r.1.open_,.bag [.map] 118 r.1.names]
theorem zbp_val:qAf Tryz.prog 56 zbp_c:=vl0 zbp_q [.tmp 4] 63 7 4 [(67,zbc_w),(68,zbn_w),(69,zbi_w),(66,zbd_w),(70,zbm_w)] ⟨zbc_ok,zbn_ok,zbi_ok,zbd_ok,zbm_ok,tV⟩ fun x y=>by
 simp only [zbp_s,-eq_self,sZ];kernel_rfl
def zbp_w:CQ:=qBs [(0,some 3,some (.node,47)),(0,some 4,some (.i64,3)),(0,some 5,some ((.bag [.map]),118))] (qB4 [true,true,true,true] zbp_c)
theorem zbp_ok:qAe Tryz.prog 56 zbp_w:=qAv zbp_val
def zbk_q:IQ:=(.seq (rg 2 [oP 2 (.mv vF)]) (.seq (rg 3 (rF 7 t0 1++[oM 3 t10])) (.seq (rg 5 [oM 12 t0,oP 13 (.call 68 [t12]),oM 11 t13,oP 14 (.extract t11 0),oP 15 (.extract t11 1),oM 4 t14,oM 5 t15]) (.seq (.seq (rg 17 [oM 16 t5,oP 17 (.un .not t16)]) (.cond t17 (.seq (rg 2 [oP 2 (.mv vF)]) (.cn [2] .ret)) .skip)) (.seq (.reg 6 (some [0,1,2,3,4,5,6,7,8,9,10,11,12]) (rF 18 t0 5++rF 22 t0 5++[oP 26 (.len t25),oP 27 (.bi .sub t26 (vI 1)),oP 28 (.iaddr 1 t21 t27),oP 29 (.load none t28),oM 6 t29])) (.seq (.seq (rg 33 [oM 30 t6,oM 31 t4,oP 32 (.ext .mget [t30,t31]),oP 33 (.bi .gtr t32 (vI 0))]) (.cond t33 (.seq (rg 2 [oM 34 t0,oM 35 t3,oP 36 (.call 72 [t34,(vI 34),t35]),oM 2 t36]) (.cn [2] .ret)) .skip)) (.seq (rg 0 [oM 37 t6,oM 38 t4,oN (.ext .mput [t37,t38,(vI 1)])]) (.seq (rg 0 ([oM 39 t0,oM 40 t4]++rS 41 t39 6 t40)) (.seq (rg 0 ([oM 43 t0]++rS 44 t43 2 (vI 4))) (.seq (rg 2 [oP 2 (.mv vT)]) (.cn [2] .ret)))))))))))
def zbk_s (r_:json_reader):Option (json_reader × Bool) :=
 (zbn_s r_).bind fun r2 =>
 bif (!r2.2.2) then (
  some ({r2.1 with out:=r_.out,open_:=r_.open_:json_reader},false))
 else (
  gd (qAc ((r2.1.names.length:Int) - (1:Int))) <|
  gd (0≤((r2.1.names.length:Int) - (1:Int))∧((r2.1.names.length:Int) - (1:Int))<r2.1.names.length) <|
  gd ((Int.toNat ((r2.1.names.length:Int) - (1:Int)))<r2.1.names.length) <|
  gd ((Int.toNat ((r2.1.names.length:Int) - (1:Int)))<r2.1.names.length) <|
  bif decide ((0:Int)<(mget ((r2.1.names.getD (Int.toNat ((r2.1.names.length:Int) - (1:Int))) (NT.dft [.map])).1) r2.2.1)) then (
   (zbh_s {r2.1 with out:=r_.out,open_:=r_.open_:json_reader} (34:Int) r_.at_).bind fun r3 =>
   some ({r3.1 with out:=r_.out,open_:=r_.open_:json_reader},r3.2))
  else (
   gd ((Int.toNat ((r2.1.names.length:Int) - (1:Int)))<r2.1.names.length) <|
   gd (((r2.1.names.getD (Int.toNat ((r2.1.names.length:Int) - (1:Int))) (NT.dft [.map])).1).isSome=true) <|
   some ((⟨r2.1.text,r2.1.at_,(4:Int),r_.out,r_.open_,(r2.1.names.set (Int.toNat ((r2.1.names.length:Int) - (1:Int))) ((mput ((r2.1.names.getD (Int.toNat ((r2.1.names.length:Int) - (1:Int))) (NT.dft [.map])).1) r2.2.1 (1:Int)),(r2.1.names.getD (Int.toNat ((r2.1.names.length:Int) - (1:Int))) (NT.dft [.map])).2)),r2.2.1,r2.1.code,r2.1.bad⟩:json_reader),true)))
def zbk_c:CS:=mkC (qAa (dVC (dCO (dH 0 0))) dNil) (qAa qEm (qAa (qBa .node) zDJP2)) (fun x y=>zbk_s (zYJP0 y)) (fun x y r=>.c (.o (.vB r.2))) fun x y r=>[.cells 79 [.vS r.1.text,.vI r.1.at_,.vI r.1.state,.own 1,.own 2,.bsl 3,.vS r.1.key,.vI r.1.code,.vI r.1.bad],.view .node y.2.1,.view .i64 y.2.2.1,.bag [.map] 118 r.1.names]
theorem zbk_val:qAf Tryz.prog 58 zbk_c:=vl0 zbk_q [.tmp 2] 46 7 4 [(68,zbn_w),(72,zbh_w)] ⟨zbn_ok,zbh_ok,tV⟩ fun x y=>by
 simp only [zbk_s,-eq_self,sZ];kernel_rfl
def zbk_w:CQ:=qBs [(0,some 3,some (.node,47)),(0,some 4,some (.i64,3)),(0,some 5,some ((.bag [.map]),118))] (qB4 [true,false,false,true] zbk_c)
theorem zbk_ok:qAe Tryz.prog 58 zbk_w:=qAv zbk_val
def zbj_q:IQ:=(.seq (rg 4 [oP 4 (.mv vF)]) (.seq (.reg 5 (some [0,1,2,3,4,5,6,7,8,9,10,11,12,13,14,15,16,17,18,19,20]) (rF 6 t0 3++rF 10 t0 4++rF 14 t0 4++[oP 18 (.len t17),oP 19 (.bi .sub t18 (vI 1)),oP 20 (.iaddr 1 t13 t19),oP 21 (.load none t20),oP 22 (.iaddr 6 t9 t21),oP 23 (.faddr 0 t22),oP 24 (.load none t23),oP 25 (.bi .eql t24 (vI 7)),oM 5 t25])) (.seq (.block 0 (.seq (rg 28 [oM 29 t1,oP 30 (.bi .eql t29 (vC 44)),oM 31 t30,oF 32 (.mv t5) 31,oP 33 (.pick t31 t32 vF),oM 28 t33]) (.cond t28 (rg 0 ([oM 34 t0]++rS 35 t34 2 (vI 2))) (.seq (rg 37 [oM 38 t1,oP 39 (.bi .eql t38 (vC 44)),oM 37 t39]) (.cond t37 (rg 0 ([oM 40 t0]++rS 41 t40 2 (vI 0))) (.seq (rg 43 [oM 44 t1,oP 45 (.bi .eql t44 (vC 125)),oM 46 t45,oF 47 (.mv t5) 46,oP 48 (.pick t46 t47 vF),oM 49 t48,oE 50 (.mv t1) 49,oE 51 (.bi .eql t50 (vC 93)) 49,oE 52 (.mv t51) 49,oF 53 (.mv t5) 52,oF 54 (.un .not t53) 52,oE 55 (.pick t52 t54 vF) 49,oP 56 (.pick t49 vT t55),oM 43 t56]) (.cond t43 (.seq (rg 4 [oM 57 t0,oP 58 (.call 55 [t57]),oM 4 t58]) (.canon [(1000000,some 4,.u8,0),(3000002,none,.u8,0),(1000000,some 5,.u8,0),(3000003,none,.u8,0)] [4] .ret)) (.seq (rg 4 [oM 26 t0,oP 27 (.call 57 [t26]),oM 4 t27]) (.cn [4] .ret))))))))) (.seq (rg 0 (rF 59 t0 1++[oP 63 (.bi .add t62 (vI 1))]++rS 64 t59 1 t63)) (.seq (rg 4 [oP 4 (.mv vT)]) (.canon [(1000000,some 4,.u8,0),(3000002,none,.u8,0),(1000000,some 5,.u8,0),(3000003,none,.u8,0)] [4] .ret))))))
def zbj_s (r_:json_reader) (c:Int):Option (json_reader × Bool) :=
 gd (qAc ((r_.open_.length:Int) - (1:Int))) <|
 gd (0≤((r_.open_.length:Int) - (1:Int))∧((r_.open_.length:Int) - (1:Int))<r_.open_.length) <|
 gd ((Int.toNat ((r_.open_.length:Int) - (1:Int)))<r_.open_.length) <|
 gd (0≤(r_.open_.getD (Int.toNat ((r_.open_.length:Int) - (1:Int))) (ET.dft .i64))∧(r_.open_.getD (Int.toNat ((r_.open_.length:Int) - (1:Int))) (ET.dft .i64))<r_.out.length) <|
 gd ((Int.toNat (r_.open_.getD (Int.toNat ((r_.open_.length:Int) - (1:Int))) (ET.dft .i64)))<r_.out.length) <|
 gd ((Int.toNat (r_.open_.getD (Int.toNat ((r_.open_.length:Int) - (1:Int))) (ET.dft .i64)))<r_.out.length) <|
 bif ((decide (c=(44:Int))) && (decide (((r_.out.getD (Int.toNat (r_.open_.getD (Int.toNat ((r_.open_.length:Int) - (1:Int))) (ET.dft .i64))) (ET.dft .node)).kind)=(7:Int)))) then (
  gd (qAc (r_.at_+(1:Int))) <|
  some ({r_ with at_:=(r_.at_+(1:Int)),state:=(2:Int):json_reader},true))
 else (
  bif decide (c=(44:Int)) then (
   gd (qAc (r_.at_+(1:Int))) <|
   some ({r_ with at_:=(r_.at_+(1:Int)),state:=(0:Int):json_reader},true))
  else (
   bif (((decide (c=(125:Int))) && (decide (((r_.out.getD (Int.toNat (r_.open_.getD (Int.toNat ((r_.open_.length:Int) - (1:Int))) (ET.dft .i64))) (ET.dft .node)).kind)=(7:Int)))) || ((decide (c=(93:Int))) && (!(decide (((r_.out.getD (Int.toNat (r_.open_.getD (Int.toNat ((r_.open_.length:Int) - (1:Int))) (ET.dft .i64))) (ET.dft .node)).kind)=(7:Int)))))) then (
    (zbg_s r_).bind fun r2 =>
    some ({r2.1 with out:=r_.out:json_reader},r2.2))
   else (
    none)))
def zbj_c:CS:=mkC (qAa (dVC (dCO (dH 0 0))) zDJP6) (qAa qEm (qAa (qBa .node) zDJP3)) (fun x y=>zbj_s (zYJP1 y) x.2.1) (fun x y r=>.c (.o (.vB r.2))) fun x y r=>[.cells 79 [.vS r.1.text,.vI r.1.at_,.vI r.1.state,.own 1,.own 4,.bsl 5,.vS r.1.key,.vI r.1.code,.vI r.1.bad],.view .node y.2.1,.dead,.dead,.row .i64 3 r.1.open_,.bag [.map] 118 r.1.names]
theorem zbj_val:qAf Tryz.prog 59 zbj_c:=vl0 zbj_q [.tmp 4] 66 6 4 [(55,zbg_w)] ⟨zbg_ok,tV⟩ fun x y=>by
 simp only [zbj_s,-eq_self,sZ];kernel_rfl
def zbj_w:CQ:=qBs [(0,some 3,some (.node,47)),(0,some 4,some (.i64,3)),(0,some 5,some ((.bag [.map]),118))] (qB4 [true,false,true,true] zbj_c)
theorem zbj_ok:qAe Tryz.prog 59 zbj_w:=qAv zbj_val
def zbo_b0:IQ:=(.seq (.seq (.seq (rg 34 [oM 33 t3,oP 34 (.bi .neq t33 (vC 34))]) (.cond t34 (.seq (rg 2 [oM 35 t0,oP 36 (.call 57 [t35]),oM 2 t36]) (.cn [2] .ret)) .skip)) (.seq (rg 2 [oM 37 t0,oP 38 (.call 58 [t37]),oM 2 t38]) (.canon [(1000000,some 3,.u8,0),(3000001,none,.u8,0),(1000000,some 4,.u8,0),(3000002,none,.u8,0),(1000000,some 5,.u8,0),(3000003,none,.u8,0)] [2] .ret))) (.exit 0))
def zbo_q:IQ:=(.seq (rg 2 [oP 2 (.mv vF)]) (.seq (rg 3 [oM 4 t0,oP 5 (.call 54 [t4]),oM 3 t5]) (.seq (.seq (rg 9 (rF 6 t0 2)) (.block 0 (.seq (.block 6 (.seq (.block 5 (.seq (.block 4 (.seq (.block 3 (.seq (.block 2 (.seq (.block 1 (.seq (.seq (.seq (rg 10 [oP 11 (.bi .eql t9 (vI 1)),oM 10 t11]) (.cond t10 (.exit 1) .skip)) (.seq (.seq (rg 12 [oP 13 (.bi .eql t9 (vI 0)),oM 12 t13]) (.cond t12 (.exit 2) .skip)) (.seq (.seq (rg 14 [oP 15 (.bi .eql t9 (vI 3)),oM 14 t15]) (.cond t14 (.exit 3) .skip)) (.seq (.seq (rg 16 [oP 17 (.bi .eql t9 (vI 2)),oM 16 t17]) (.cond t16 (.exit 4) .skip)) (.seq (.seq (rg 18 [oP 19 (.bi .eql t9 (vI 4)),oM 18 t19]) (.cond t18 (.exit 5) .skip)) (.seq (rg 20 [oP 21 (.bi .eql t9 (vI 5)),oM 20 t21]) (.cond t20 (.exit 6) .skip))))))) (.exit 0))) (.seq (rg 23 [oM 22 t3,oP 23 (.bi .eql t22 (vC 93))]) (.cond t23 (.seq (rg 2 [oM 24 t0,oP 25 (.call 55 [t24]),oM 2 t25]) (.canon [(1000000,some 3,.u8,0),(3000001,none,.u8,0),(1000000,some 4,.u8,0),(3000002,none,.u8,0),(1000000,some 5,.u8,0),(3000003,none,.u8,0)] [2] .ret)) .skip)))) (.seq (.seq (rg 2 [oM 26 t0,oM 27 t3,oP 28 (.call 56 [t26,t27]),oM 2 t28]) (.canon [(1000000,some 3,.u8,0),(3000001,none,.u8,0),(1000000,some 4,.u8,0),(3000002,none,.u8,0),(1000000,some 5,.u8,0),(3000003,none,.u8,0)] [2] .ret)) (.exit 0)))) (.seq (rg 30 [oM 29 t3,oP 30 (.bi .eql t29 (vC 125))]) (.cond t30 (.seq (rg 2 [oM 31 t0,oP 32 (.call 55 [t31]),oM 2 t32]) (.canon [(1000000,some 3,.u8,0),(3000001,none,.u8,0),(1000000,some 4,.u8,0),(3000002,none,.u8,0),(1000000,some 5,.u8,0),(3000003,none,.u8,0)] [2] .ret)) .skip)))) (.cn [0,3] (.sub 0 zbo_b0)))) (.seq (.seq (.seq (rg 40 [oM 39 t3,oP 40 (.bi .neq t39 (vC 58))]) (.cond t40 (.seq (rg 2 [oM 41 t0,oP 42 (.call 57 [t41]),oM 2 t42]) (.cn [2] .ret)) .skip)) (.seq (rg 0 (rF 43 t0 1++[oP 47 (.bi .add t46 (vI 1))]++rS 48 t43 1 t47)) (.seq (rg 0 ([oM 50 t0]++rS 51 t50 2 (vI 0))) (.seq (rg 2 [oP 2 (.mv vT)]) (.canon [(1000000,some 3,.u8,0),(3000001,none,.u8,0),(1000000,some 4,.u8,0),(3000002,none,.u8,0),(1000000,some 5,.u8,0),(3000003,none,.u8,0)] [2] .ret))))) (.exit 0)))) (.seq (.seq (rg 2 [oM 53 t0,oM 54 t3,oP 55 (.call 59 [t53,t54]),oM 2 t55]) (.canon [(1000000,some 3,.u8,0),(3000001,none,.u8,0),(1000000,some 4,.u8,0),(3000002,none,.u8,0),(1000000,some 5,.u8,0),(3000003,none,.u8,0)] [2] .ret)) (.exit 0))))) (.seq (rg 2 [oM 56 t0,oP 57 (.call 57 [t56]),oM 2 t57]) (.cn [2] .ret)))))
def zbo_p0 (c:Int) (qGl:BA) (qGm qGw:Int) (qHb:BA) (qG3 qHa:Int) (qG1:List Eng.Node) (qGr:List Int) (qGv:qC1):Option (Bool × BA × Int × Int × BA × Int × Int × qC1) :=
 bif (!decide (c=(34:Int))) then (
  none)
 else (
  (zbk_s (⟨qGl,qGm,qGw,qG1,qGr,qGv,qHb,qG3,qHa⟩:json_reader)).bind fun r14 =>
  some (r14.2,r14.1.text,r14.1.at_,r14.1.state,r14.1.key,r14.1.code,r14.1.bad,r14.1.names))
def zbo_s (r_:json_reader):Option (json_reader × Bool) :=
 (zbl_s r_).bind fun r9 =>
 bif decide (r_.state=(1:Int)) then (
  bif decide (r9=(93:Int)) then (
   (zbg_s r_).bind fun r10 =>
   some ({r10.1 with out:=r_.out:json_reader},r10.2))
  else (
   (zbp_s r_ r9).bind fun r11 =>
   some (r11.1,r11.2)))
 else (
  bif decide (r_.state=(0:Int)) then (
   (zbp_s r_ r9).bind fun r12 =>
   some (r12.1,r12.2))
  else (
   bif decide (r_.state=(3:Int)) then (
    bif decide (r9=(125:Int)) then (
     (zbg_s r_).bind fun r13 =>
     some ({r13.1 with out:=r_.out:json_reader},r13.2))
    else (
     (zbo_p0 r9 r_.text r_.at_ r_.state r_.key r_.code r_.bad r_.out r_.open_ r_.names).bind fun o15 =>
     some ((⟨o15.2.1,o15.2.2.1,o15.2.2.2.1,r_.out,r_.open_,o15.2.2.2.2.2.2.2,o15.2.2.2.2.1,o15.2.2.2.2.2.1,o15.2.2.2.2.2.2.1⟩:json_reader),o15.1)))
   else (
    bif decide (r_.state=(2:Int)) then (
     (zbo_p0 r9 r_.text r_.at_ r_.state r_.key r_.code r_.bad r_.out r_.open_ r_.names).bind fun o16 =>
     some ((⟨o16.2.1,o16.2.2.1,o16.2.2.2.1,r_.out,r_.open_,o16.2.2.2.2.2.2.2,o16.2.2.2.2.1,o16.2.2.2.2.2.1,o16.2.2.2.2.2.2.1⟩:json_reader),o16.1))
    else (
     bif decide (r_.state=(4:Int)) then (
      bif (!decide (r9=(58:Int))) then (
       none)
      else (
       gd (qAc (r_.at_+(1:Int))) <|
       some ({r_ with at_:=(r_.at_+(1:Int)),state:=(0:Int):json_reader},true)))
     else (
      bif decide (r_.state=(5:Int)) then (
       (zbj_s r_ r9).bind fun r17 =>
       some ({r17.1 with out:=r_.out:json_reader},r17.2))
      else (
       none))))))
def zbo_G:Nat→Option CQ:=tblQ [(54,zbl_w),(55,zbg_w),(56,zbp_w),(58,zbk_w),(59,zbj_w)]
def zbo_d0:=(dQS (qAa (dSO 0 (dH 0 0)) (qAa (dSO 3 (dI .u8)) dNil)) (qAa qEm (qAa (dRow .node 47) zDJP3)))
def zbo_l0:SubQ:=mkL zbo_d0 (fun x=>zbo_p0 x.1.2.1 x.2.1.1 x.2.1.2.1 x.2.1.2.2.1 x.2.1.2.2.2.2.2.2.1 x.2.1.2.2.2.2.2.2.2.1 x.2.1.2.2.2.2.2.2.2.2.1 x.2.2.1 x.2.2.2.1 x.2.2.2.2.1) fun x r R kn kx kr=>kr ⟨[sL 2 (.vB r.1)],[],[.cells 79 [.vS r.2.1,.vI r.2.2.1,.vI r.2.2.2.1,.own 4,.own 5,.bsl 6,.vS r.2.2.2.2.1,.vI r.2.2.2.2.2.1,.vI r.2.2.2.2.2.2.1],.dead,.dead,.dead,.row .node 47 x.2.2.1,.row .i64 3 x.2.2.2.1,.bag [.map] 118 r.2.2.2.2.2.2.2]⟩
def zbo_L:Nat→SubQ:=tblL [(0,zbo_l0)]
theorem zbo_sub0:qA0 zbo_L zbo_G 4 10 58 0 zbo_b0:=qAh (show zbo_L 0=zbo_l0 from by kernel_rfl) fun x R kn kx kr=>by
 simp only [zbo_p0,-eq_self,sZ];kernel_rfl
def zbo_c:CS:=mkC (qAa (dVC (dCO (dH 0 0))) dNil) (qAa qEm (qAa (dRow .node 47) zDJP3)) (fun x y=>zbo_s (zYJP3 y)) (fun x y r=>.c (.o (.vB r.2))) fun x y r=>[.cells 79 [.vS r.1.text,.vI r.1.at_,.vI r.1.state,.own 4,.own 5,.bsl 6,.vS r.1.key,.vI r.1.code,.vI r.1.bad],.dead,.dead,.dead,.row .node 47 r.1.out,.row .i64 3 r.1.open_,.bag [.map] 118 r.1.names]
theorem zbo_val:qAf Tryz.prog 43 zbo_c:=vl1 zbo_q [.tmp 2] 58 10 4 (show qA3 zbo_L zbo_G 4 10 58 [(0,zbo_b0)] from ⟨zbo_sub0,tV⟩) (qAq ⟨zbl_ok,zbg_ok,zbp_ok,zbk_ok,zbj_ok,tV⟩) fun x y=>by
 simp only [zbo_s,-eq_self,sZ];kernel_rfl
def zbo_w:CQ:=qBs [(0,some 3,some (.node,47)),(0,some 4,some (.i64,3)),(0,some 5,some ((.bag [.map]),118))] (qB4 [true,true,true,true] zbo_c)
theorem zbo_ok:qAe Tryz.prog 43 zbo_w:=qAv zbo_val
def zbb_b0:IQ:=(.loop [0,5] (.seq (.seq (rg 20 (rF 14 t5 1++[oM 18 t0,oP 19 (.lenS t18),oP 20 (.bi .lss t17 t19)])) (.cond t20 .skip (.cn [0,5] (.exit 0)))) (.seq (.block 1 (.seq (rg 25 [oM 23 t5,oP 24 (.call 43 [t23]),oP 25 (.un .not t24)]) (.cond t25 (.seq (.reg 4 (some [0,1,2,3,4,5,6,7,8,9,10]) (rF 26 t5 7++rF 30 t5 8++[oP 2 (.mv (.v (.slice none 0 0))),oM 3 t29,oM 4 t33])) (.canon [(2,none,.node,47)] [2,3,4] .ret)) .skip))) (rg 22 [oM 21 t5,oP 22 (.call 42 [t21])]))))
def zbb_q:IQ:=(.seq (rg 4 [oP 2 (.mv (.v (.slice none 0 0))),oP 3 (.mv (vI 0)),oP 4 (.mv (vI 0))]) (.seq (.seq (rg 8 [oM 6 t0,oP 7 (.lenS t6),oP 8 (.bi .gtr t7 (vI 262144))]) (.cond t8 (.seq (rg 4 [oP 2 (.mv (.v (.slice none 0 0))),oP 3 (.mv (vI 10)),oP 4 (.mv (vI 0))]) (.canon [(2,none,.node,47)] [2,3,4] .ret)) .skip)) (.seq (rg 5 [oM 9 t0,oP 10 (.build [.string ⟨#[]⟩,.int .i64 0,.int .i64 0,.slice none 0 0,.slice none 0 0,.slice none 0 0,.string ⟨#[]⟩,.int .i64 0,.int .i64 0] [(0,1,t9)]),oP 11 (.box 79 9 t10),oM 5 t11]) (.seq (.seq (rg 13 [oM 12 t5,oP 13 (.call 42 [t12])]) (.block 0 (.cn [0,5] (.sub 0 zbb_b0)))) (.seq (.seq (rg 38 (rF 34 t5 2++[oP 38 (.bi .neq t37 (vI 6))])) (.cond t38 (.seq (rg 4 [oM 39 t0,oP 40 (.lenS t39),oP 2 (.mv (.v (.slice none 0 0))),oP 3 (.mv (vI 31)),oM 4 t40]) (.canon [(2,none,.node,47)] [2,3,4] .ret)) .skip)) (.seq (rg 4 (rF 41 t5 3++[oM 2 t44,oP 3 (.mv (vI 0)),oP 4 (.mv (vI 0))])) (.canon [(2,none,.node,47)] [2,3,4] .ret)))))))
def zbb_p0_step (text qGl:BA) (qGm qGw:Int) (qHb:BA) (qG3 qHa:Int) (qG1:List Eng.Node) (qGr:List Int) (qGv:qC1):Option ((BA × Int × Int × BA × Int × Int × (List Eng.Node) × (List Int) × qC1) ⊕ ((Int × Int × (List Eng.Node)) ⊕ (BA × Int × Int × BA × Int × Int × (List Eng.Node) × (List Int) × qC1))) :=
 bif decide (qGm<(text.size:Int)) then (
  (zbo_s (⟨qGl,qGm,qGw,qG1,qGr,qGv,qHb,qG3,qHa⟩:json_reader)).bind fun r29 =>
  bif (!r29.2) then (
   some (.inr (.inl (r29.1.code,r29.1.bad,[]))))
  else (
   (zbe_s r29.1).bind fun r30 =>
   some (.inl (r30.text,r30.at_,r30.state,r30.key,r30.code,r30.bad,r29.1.out,r29.1.open_,r30.names))))
 else (
  some (.inr (.inr (qGl,qGm,qGw,qHb,qG3,qHa,qG1,qGr,qGv))))
def zbb_p0 (text qGl:BA) (qGm qGw:Int) (qHb:BA) (qG3 qHa:Int) (qG1:List Eng.Node) (qGr:List Int) (qGv:qC1):Option ((Int × Int × (List Eng.Node)) ⊕ (BA × Int × Int × BA × Int × Int × (List Eng.Node) × (List Int) × qC1)) :=
 qAt (fun x:(BA × Int × Int × BA × Int × Int × (List Eng.Node) × (List Int) × qC1)=>zbb_p0_step text x.1 x.2.1 x.2.2.1 x.2.2.2.1 x.2.2.2.2.1 x.2.2.2.2.2.1 x.2.2.2.2.2.2.1 x.2.2.2.2.2.2.2.1 x.2.2.2.2.2.2.2.2) (qGl,qGm,qGw,qHb,qG3,qHa,qG1,qGr,qGv)
def zbb_s (text:BA):Option ((List Eng.Node) × Int × Int) :=
 bif decide ((262144:Int)<(text.size:Int)) then (
  some ([],(10:Int),(0:Int)))
 else (
  (zbe_s (⟨text,(0:Int),(0:Int),[],[],[],(⟨#[]⟩:BA),(0:Int),(0:Int)⟩:json_reader)).bind fun r28 =>
  (zbb_p0 text r28.text r28.at_ r28.state r28.key r28.code r28.bad [] [] r28.names).bind fun o31=>(Sum.elim (fun (o31_0:Int × Int × (List Eng.Node)) =>
   some (o31_0.2.2,o31_0.1,o31_0.2.1)) (fun (o31_1:BA × Int × Int × BA × Int × Int × (List Eng.Node) × (List Int) × qC1) =>
   bif (!decide (o31_1.2.2.1=(6:Int))) then (
    some ([],(31:Int),(text.size:Int)))
   else (
    some (o31_1.2.2.2.2.2.2.1,(0:Int),(0:Int))))) o31)
def zbb_G:Nat→Option CQ:=tblQ [(42,zbe_w),(43,zbo_w)]
def zbb_d0:=(dQS (qAa (dSO 0 dS) (qAa (dSO 5 (dH 0 0)) dNil)) (qAa qEm (qAa (dRow .node 47) zDJP3)))
def zbb_l0:SubQ:=mkL zbb_d0 (fun x=>zbb_p0 x.1.1 x.2.1.1 x.2.1.2.1 x.2.1.2.2.1 x.2.1.2.2.2.2.2.2.1 x.2.1.2.2.2.2.2.2.2.1 x.2.1.2.2.2.2.2.2.2.2.1 x.2.2.1 x.2.2.2.1 x.2.2.2.2.1) fun x r R kn kx kr=>(Sum.elim (fun (r_0:Int × Int × (List Eng.Node))=>kr ⟨[sL 2 (.own 0),sL 3 (.vI r_0.1),sL 4 (.vI r_0.2.1)],[],[.row .node 47 r_0.2.2]⟩) (fun (r_1:BA × Int × Int × BA × Int × Int × (List Eng.Node) × (List Int) × qC1)=>kx 0 ⟨[sL 0 (.vS x.1.1),sL 5 (.hd 0 0)],[],[.cells 79 [.vS r_1.1,.vI r_1.2.1,.vI r_1.2.2.1,.own 1,.own 2,.bsl 3,.vS r_1.2.2.2.1,.vI r_1.2.2.2.2.1,.vI r_1.2.2.2.2.2.1],.row .node 47 r_1.2.2.2.2.2.2.1,.row .i64 3 r_1.2.2.2.2.2.2.2.1,.bag [.map] 118 r_1.2.2.2.2.2.2.2.2]⟩)) r
def zbb_L:Nat→SubQ:=tblL [(0,zbb_l0)]
theorem zbb_sub0:qA0 zbb_L zbb_G 0 6 45 0 zbb_b0:=qAh (show zbb_L 0=zbb_l0 from by kernel_rfl) fun x R kn kx kr=>qAg (step:=fun y=>zbb_p0_step x.1.1 y.1 y.2.1 y.2.2.1 y.2.2.2.1 y.2.2.2.2.1 y.2.2.2.2.2.1 y.2.2.2.2.2.2.1 y.2.2.2.2.2.2.2.1 y.2.2.2.2.2.2.2.2) (enc:=fun (y:BA × Int × Int × BA × Int × Int × (List Eng.Node) × (List Int) × qC1)=>zbb_d0.e (x.1,((y.1,y.2.1,y.2.2.1,x.2.1.2.2.2.1,x.2.1.2.2.2.2.1,x.2.1.2.2.2.2.2.1,y.2.2.2.1,y.2.2.2.2.1,y.2.2.2.2.2.1,x.2.1.2.2.2.2.2.2.2.2.2),y.2.2.2.2.2.2.1,y.2.2.2.2.2.2.2.1,y.2.2.2.2.2.2.2.2,x.2.2.2.2.2))) (fun y=>by kernel_rfl) (fun y ki=>by simp only [zbb_p0_step,-eq_self,sZ]; kernel_rfl) (x.2.1.1,x.2.1.2.1,x.2.1.2.2.1,x.2.1.2.2.2.2.2.2.1,x.2.1.2.2.2.2.2.2.2.1,x.2.1.2.2.2.2.2.2.2.2.1,x.2.2.1,x.2.2.2.1,x.2.2.2.2.1)
def zbb_c:CS:=mkC (qAa (dVC (dCO dS)) dNil) dNil (fun x y=>zbb_s x.1) (fun x y r=>.tup [.o (.own 0),.o (.vI r.2.1),.o (.vI r.2.2)]) fun x y r=>[.row .node 47 r.1]
theorem zbb_val:qAf Tryz.prog 26 zbb_c:=vl1 zbb_q [.tmp 2,.tmp 3,.tmp 4] 45 6 0 (show qA3 zbb_L zbb_G 0 6 45 [(0,zbb_b0)] from ⟨zbb_sub0,tV⟩) (qAq ⟨zbe_ok,zbo_ok,tV⟩) fun x y=>by
 simp only [zbb_s,-eq_self,sZ];kernel_rfl
def zbb_w:CQ:=qB4 [] zbb_c
theorem zbb_ok:qAe Tryz.prog 26 zbb_w:=qBw zbb_val
end
end Go.Proofs.YtlmfmmgfiffjiaaGreatDoor
