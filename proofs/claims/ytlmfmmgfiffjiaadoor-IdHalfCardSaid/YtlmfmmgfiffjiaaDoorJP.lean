/-
  Functions as the engine reads them (printed by gen.py).
-/
import Derived.Test.YtlmfmmgfiffjiaaDoorEngO
import Derived.Test.YtlmfmmgfiffjiaaDoorProg
import Derived.Test.YtlmfmmgfiffjiaaDoorPShaped
namespace Go.Proofs.YtlmfmmgfiffjiaaDoor
open Go.Eng
set_option linter.unusedVariables false
set_option linter.unusedSimpArgs false
set_option maxRecDepth 100000
noncomputable section
abbrev qA2:List NK:=[.map]
abbrev qBc:Type:=List (MapC × Unit)
structure json_reader where
 text:BA
 at_:Int
 state:Int
 out:(List Eng.Node)
 open_:(List Int)
 names:qBc
 key:BA
 code:Int
 bad:Int
def zbj_b0:IQ:=(.loop [0] (.seq (.seq (.reg 59 (some [0,1,2,3,4,5,6,7,8,9,10,11,12,13,14,15,16,17,18,19,20,21,22,23,24,25,26,27,28,29,30,31,32,33,34,35,36,37,38,39,40,41,42,43,44,45,46,47,48,49,50,51,52,53,54,55,56,57]) (rF 2 t0 1++rF 6 t0 0++[oP 10 (.lenS t9),oP 11 (.bi .lss t5 t10),oM 12 t11]++rH oF 13 t0 0 12++rH oF 17 t0 1 12++[oF 21 (.index t16 t20) 12,oF 22 (.bi .eql t21 (vC 32)) 12,oF 23 (.mv t22) 12]++rH oE 24 t0 0 23++rH oE 28 t0 1 23++[oE 32 (.index t27 t31) 23,oE 33 (.bi .eql t32 (vC 9)) 23,oF 34 (.pick t23 vT t33) 12,oF 35 (.mv t34) 12]++rH oE 36 t0 0 35++rH oE 40 t0 1 35++[oE 44 (.index t39 t43) 35,oE 45 (.bi .eql t44 (vC 10)) 35,oF 46 (.pick t35 vT t45) 12,oF 47 (.mv t46) 12]++rH oE 48 t0 0 47++rH oE 52 t0 1 47++[oE 56 (.index t51 t55) 47,oE 57 (.bi .eql t56 (vC 13)) 47,oF 58 (.pick t47 vT t57) 12,oP 59 (.pick t12 t58 vF)])) (.cond t59 .skip (.cn [] (.exit 0)))) (.block 1 (rg 0 (rF 60 t0 1++[oP 64 (.bi .add t63 (vI 1))]++rS 65 t60 1 t64)))))
def zbj_q:IQ:=(.join [] [] (.block 0 (.cn [0] (.sub 0 zbj_b0))))
def qFd (qGw:BA) (qGx:Int):Option (Int ⊕ Int) :=
 gd ((decide (qGx<(qGw.size:Int)))=true→0≤qGx∧qGx<qGw.size) <|
 gd ((decide ((bAt qGw qGx)=(32:Int)))=false→(decide (qGx<(qGw.size:Int)))=true→0≤qGx∧qGx<qGw.size) <|
 gd (((decide ((bAt qGw qGx)=(32:Int))) || (decide ((bAt qGw qGx)=(9:Int))))=false→(decide (qGx<(qGw.size:Int)))=true→0≤qGx∧qGx<qGw.size) <|
 gd ((((decide ((bAt qGw qGx)=(32:Int))) || (decide ((bAt qGw qGx)=(9:Int)))) || (decide ((bAt qGw qGx)=(10:Int))))=false→(decide (qGx<(qGw.size:Int)))=true→0≤qGx∧qGx<qGw.size) <|
 bif ((decide (qGx<(qGw.size:Int))) && ((((decide ((bAt qGw qGx)=(32:Int))) || (decide ((bAt qGw qGx)=(9:Int)))) || (decide ((bAt qGw qGx)=(10:Int)))) || (decide ((bAt qGw qGx)=(13:Int))))) then (
  gd (qAc (qGx+(1:Int))) <|
  some (.inl (qGx+(1:Int))))
 else (
  some (.inr qGx))
def zbj_p0 (qGw:BA) (qGx:Int):Option Int :=
 qAw (fun x:Int=>qFd qGw x) qGx
def zbj_s (r_:json_reader):Option json_reader :=
 (zbj_p0 r_.text r_.at_).bind fun o2 =>
 some {r_ with at_:=o2:json_reader}
def zbj_G:Nat→Option CQ:=tblQ []
def qC5:=(qCv 119 (qAa dS (qAa dZ (qAa dZ (qAa (dO 1) (qAa (dO 2) (qAa (dBsl 3) (qAa dS (qAa dZ (qAa dZ dNil))))))))))
def zDJP2:=(qAa (qBn .i64) (qAa (dBag qA2 138) dNil))
def zDJP5:=(qAa qC5 (qAa (qBn .node) zDJP2))
def zbj_d0:=(dQS (qAa (dSO 0 (dH 0 0)) dNil) zDJP5)
def zbj_l0:SubQ:=mkL zbj_d0 (fun x=>zbj_p0 x.2.1.1 x.2.1.2.1) fun x r R kn kx kr=>kx 0 ⟨[],[],[.cells 119 [.vS x.2.1.1,.vI r,.vI x.2.1.2.2.1,.own 1,.own 2,.bsl 3,.vS x.2.1.2.2.2.2.2.2.1,.vI x.2.1.2.2.2.2.2.2.2.1,.vI x.2.1.2.2.2.2.2.2.2.2.1],.view .node x.2.2.1,.view .i64 x.2.2.2.1,.bag qA2 138 x.2.2.2.2.1]⟩
def zbj_L:Nat→SubQ:=tblL [(0,zbj_l0)]
theorem zbj_sub0:qBe zbj_L zbj_G 4 2 67 0 zbj_b0:=qAo (show zbj_L 0=zbj_l0 from by kernel_rfl) fun x R kn kx kr=>qAl (step:=fun y=>qFd x.2.1.1 y) (enc:=fun (y:Int)=>zbj_d0.e (x.1,((x.2.1.1,y,x.2.1.2.2),x.2.2))) (fun y=>by kernel_rfl) (fun y ki=>by simp only [qFd,-eq_self,sZ]; kernel_rfl) x.2.1.2.1
def zYJP0 (y:dTy (qAa qC5 (qAa (qBn .node) zDJP2))):json_reader:=(⟨y.1.1,y.1.2.1,y.1.2.2.1,y.2.1,y.2.2.1,y.2.2.2.1,y.1.2.2.2.2.2.2.1,y.1.2.2.2.2.2.2.2.1,y.1.2.2.2.2.2.2.2.2.1⟩:json_reader)
def zbj_c:CS:=mkC (qAa (dVC (dCO (dH 0 0))) dNil) (qAa qC5 (qAa (qBn .node) zDJP2)) (fun x y=>zbj_s (zYJP0 y)) (fun x y r=>.tup []) fun x y r=>[.cells 119 [.vS r.text,.vI r.at_,.vI r.state,.own 1,.own 2,.bsl 3,.vS r.key,.vI r.code,.vI r.bad],.view .node y.2.1,.view .i64 y.2.2.1,.bag qA2 138 r.names]
theorem zbj_val:qAh Tryd.prog 77 zbj_c:=vl1 zbj_q [] 67 2 4 (show qA3 zbj_L zbj_G 4 2 67 [(0,zbj_b0)] from ⟨zbj_sub0,tV⟩) (fun f C h=>by cases h) fun x y=>by
 simp only [zbj_s,-eq_self,sZ];kernel_rfl
def zbj_w:CQ:=qBk [(0,some 3,some (.node,39)),(0,some 4,some (.i64,3)),(0,some 5,some ((.bag qA2),138))] (qBq [true,false,false,true] zbj_c)
theorem zbj_ok:qAe Tryd.prog 77 zbj_w:=qAn zbj_val
def zbs_q:IQ:=(.seq (rg 2 [oP 2 (.mv (vC 0))]) (.seq (.seq (.reg 12 (some [0,1,2,3,4,5,6,7,8,9]) (rF 3 t0 1++rF 7 t0 0++[oP 11 (.lenS t10),oP 12 (.bi .lss t6 t11)])) (.cond t12 (.seq (.reg 2 (some [0,1,2,3,4,5,6,7,8,9]) (rF 13 t0 0++rF 17 t0 1++[oP 21 (.index t16 t20),oM 2 t21])) (.cn [2] .ret)) .skip)) (.seq (rg 2 [oP 2 (.mv (vC 0))]) (.cn [2] .ret))))
def zbs_s (r_:json_reader):Option Int :=
 bif decide (r_.at_<(r_.text.size:Int)) then (
  gd (0≤r_.at_∧r_.at_<r_.text.size) <|
  some (bAt r_.text r_.at_))
 else (
  some (0:Int))
def zbs_c:CS:=mkC (qAa (dVC (dCO (dH 0 0))) dNil) (qAa qC5 (qAa (qBn .node) zDJP2)) (fun x y=>zbs_s (zYJP0 y)) (fun x y r=>.c (.o (.val (.int .u8 r)))) fun x y r=>[.cells 119 [.vS y.1.1,.vI y.1.2.1,.vI y.1.2.2.1,.own 1,.own 2,.bsl 3,.vS y.1.2.2.2.2.2.2.1,.vI y.1.2.2.2.2.2.2.2.1,.vI y.1.2.2.2.2.2.2.2.2.1],.view .node y.2.1,.view .i64 y.2.2.1,.bag qA2 138 y.2.2.2.1]
theorem zbs_val:qAh Tryd.prog 88 zbs_c:=vl0 zbs_q [.tmp 2] 22 3 4 [] trivial fun x y=>by
 simp only [zbs_s,-eq_self,sZ];kernel_rfl
def zbs_w:CQ:=qBk [(0,some 3,some (.node,39)),(0,some 4,some (.i64,3)),(0,some 5,some ((.bag qA2),138))] (qBq [true,false,false,true] zbs_c)
theorem zbs_ok:qAe Tryd.prog 88 zbs_w:=qAn zbs_val
def zbi_q:IQ:=(.join [] [] (.seq (rg 0 ([oM 2 t0]++rS 3 t2 2 (vI 5))) (.seq (rg 10 (rF 5 t0 4++[oP 9 (.len t8),oP 10 (.bi .eql t9 (vI 0))])) (.cond t10 (rg 0 ([oM 11 t0]++rS 12 t11 2 (vI 6))) .skip))))
def zbi_s (r_:json_reader):Option json_reader :=
 bif decide ((r_.open_.length:Int)=(0:Int)) then (
  some {r_ with state:=(6:Int):json_reader})
 else (
  some {r_ with state:=(5:Int):json_reader})
def zbi_c:CS:=mkC (qAa (dVC (dCO (dH 0 0))) dNil) (qAa qC5 (qAa (qBn .node) zDJP2)) (fun x y=>zbi_s (zYJP0 y)) (fun x y r=>.tup []) fun x y r=>[.cells 119 [.vS r.text,.vI r.at_,.vI r.state,.own 1,.own 2,.bsl 3,.vS r.key,.vI r.code,.vI r.bad],.view .node y.2.1,.view .i64 y.2.2.1,.bag qA2 138 r.names]
theorem zbi_val:qAh Tryd.prog 97 zbi_c:=vl0 zbi_q [] 14 2 4 [] trivial fun x y=>by
 simp only [zbi_s,-eq_self,sZ];kernel_rfl
def zbi_w:CQ:=qBk [(0,some 3,some (.node,39)),(0,some 4,some (.i64,3)),(0,some 5,some ((.bag qA2),138))] (qBq [true,false,false,true] zbi_c)
theorem zbi_ok:qAe Tryd.prog 97 zbi_w:=qAn zbi_val
def zbl_q:IQ:=(.seq (rg 2 [oP 2 (.mv vF)]) (.seq (rg 0 (rF 3 t0 1++[oP 7 (.bi .add t6 (vI 1))]++rS 8 t3 1 t7)) (.seq (.reg 0 (some [0,1,2,3,4,5,6,7,8,9,10,11,13,14,15,16,17,18,19,20,21,22,12,24,25,23,26,27,28,29]) ([oM 10 t0,oM 11 t0]++rF 12 t0 4++rF 16 t0 4++[oP 20 (.len t19),oP 21 (.bi .sub t20 (vI 1))]++rF 23 t0 5++rF 27 t0 5++[oP 31 (.len t30),oP 32 (.bi .sub t31 (vI 1)),oP 22 (.sub (some 1) t15 none (some t21)),oP 34 (.nk t10),oP 35 (.faddr 4 t34),oP 33 (.sub (some 1) t26 none (some t32)),oN (.store 1 t35 t22)]++rS 36 t11 5 t33)) (.seq (rg 39 [oM 38 t0,oP 39 (.call 97 [t38])]) (.seq (rg 2 [oP 2 (.mv vT)]) (.cn [2] .ret))))))
def zbl_s (r_:json_reader):Option (json_reader × Bool) :=
 gd (qAc (r_.at_+(1:Int))) <|
 gd (qAc ((r_.open_.length:Int) - (1:Int))) <|
 gd (qAc ((r_.names.length:Int) - (1:Int))) <|
 gd (0≤((r_.open_.length:Int) - (1:Int))∧((r_.open_.length:Int) - (1:Int))≤r_.open_.length) <|
 gd (0≤((r_.names.length:Int) - (1:Int))∧((r_.names.length:Int) - (1:Int))≤r_.names.length) <|
 (zbi_s {r_ with at_:=(r_.at_+(1:Int)),open_:=(r_.open_.take (Int.toNat ((r_.open_.length:Int) - (1:Int)))),names:=(r_.names.take (Int.toNat ((r_.names.length:Int) - (1:Int)))):json_reader}).bind fun r3 =>
 some ({r3 with out:=r_.out,open_:=(r_.open_.take (Int.toNat ((r_.open_.length:Int) - (1:Int)))):json_reader},true)
def zDJP3:=(qAa (dRow .i64 3) (qAa (dBag qA2 138) dNil))
def zYJP1 (y:dTy (qAa qC5 (qAa (qBn .node) zDJP3))):json_reader:=(⟨y.1.1,y.1.2.1,y.1.2.2.1,y.2.1,y.2.2.1,y.2.2.2.1,y.1.2.2.2.2.2.2.1,y.1.2.2.2.2.2.2.2.1,y.1.2.2.2.2.2.2.2.2.1⟩:json_reader)
def zbl_c:CS:=mkC (qAa (dVC (dCO (dH 0 0))) dNil) (qAa qC5 (qAa (qBn .node) zDJP3)) (fun x y=>zbl_s (zYJP1 y)) (fun x y r=>.c (.o (.vB r.2))) fun x y r=>[.cells 119 [.vS r.1.text,.vI r.1.at_,.vI r.1.state,.own 1,.own 4,.bsl 5,.vS r.1.key,.vI r.1.code,.vI r.1.bad],.view .node y.2.1,.dead,.dead,.row .i64 3 r.1.open_,.bag qA2 138 r.1.names]
theorem zbl_val:qAh Tryd.prog 89 zbl_c:=vl0 zbl_q [.tmp 2] 40 3 4 [(97,zbi_w)] ⟨zbi_ok,tV⟩ fun x y=>by
 simp only [zbl_s,-eq_self,sZ];kernel_rfl
def zbl_w:CQ:=qBk [(0,some 3,some (.node,39)),(0,some 4,some (.i64,3)),(0,some 5,some ((.bag qA2),138))] (qBq [true,false,true,true] zbl_c)
theorem zbl_ok:qAe Tryd.prog 89 zbl_w:=qAn zbl_val
def zbn_q:IQ:=(.seq (rg 6 [oP 6 (.mv vF)]) (.seq (rg 0 ([oM 7 t0,oM 8 t0,oM 9 t1,oM 10 t2]++rS 11 t7 7 t9++rS 13 t8 8 t10)) (.seq (rg 6 [oP 6 (.mv vF)]) (.cn [6] .ret))))
def zbn_s (r_:json_reader) (code at_:Int):Option (json_reader × Bool) :=
 some ({r_ with code:=code,bad:=at_:json_reader},false)
def zbn_c:CS:=mkC (qAa (dVC (dCO (dH 0 0))) (qAa (dVC (dCO dZ)) (qAa (dVC (dCO dZ)) dNil))) (qAa qC5 (qAa (qBn .node) zDJP2)) (fun x y=>zbn_s (zYJP0 y) x.2.1 x.2.2.1) (fun x y r=>.c (.o (.vB r.2))) fun x y r=>[.cells 119 [.vS r.1.text,.vI r.1.at_,.vI r.1.state,.own 1,.own 2,.bsl 3,.vS r.1.key,.vI r.1.code,.vI r.1.bad],.view .node y.2.1,.view .i64 y.2.2.1,.bag qA2 138 r.1.names]
theorem zbn_val:qAh Tryd.prog 103 zbn_c:=vl0 zbn_q [.tmp 6] 15 7 4 [] trivial fun x y=>by
 simp only [zbn_s,-eq_self,sZ];kernel_rfl
def zbn_w:CQ:=qBk [(0,some 3,some (.node,39)),(0,some 4,some (.i64,3)),(0,some 5,some ((.bag qA2),138))] (qBq [true,false,false,true] zbn_c)
theorem zbn_ok:qAe Tryd.prog 103 zbn_w:=qAn zbn_val
def zbo_q:IQ:=(.join [] [] (.seq (rg 3 [oP 3 (.box 39 6 t1)]) (.seq (rg 0 (rF 4 t0 6++[oP 8 (.faddr 1 t3),oN (.store 1 t8 t7)])) (.seq (rg 0 [oM 9 t0,oP 10 (.nk t9),oP 11 (.faddr 6 t10),oN (.store 1 t11 (.v (.string ⟨#[]⟩)))]) (.seq (.seq (rg 17 (rF 12 t0 4++[oP 16 (.len t15),oP 17 (.bi .gtr t16 (vI 0))])) (.cond t17 (.reg 0 (some [0,1,2,3,4,5,6,7,8,9,10,11,12,13,14,15,16,17,18,19,20,21,22]) (rF 18 t0 3++rF 22 t0 4++rF 26 t0 4++[oP 30 (.len t29),oP 31 (.bi .sub t30 (vI 1)),oP 32 (.iaddr 1 t25 t31),oP 33 (.load none t32),oP 34 (.iaddr 6 t21 t33),oP 35 (.faddr 5 t34),oP 36 (.load none t35),oP 37 (.bi .add t36 (vI 1)),oP 38 (.iaddr 6 t21 t33),oP 39 (.faddr 5 t38),oN (.store 1 t39 t37)])) .skip)) (.reg 0 (some [0,1,2,3,4,5,6,7,8,9,10]) ([oM 40 t0]++rF 41 t0 3++[oP 45 (.load (some 6) t3),oP 46 (.bslice 39 6 1 [.int .i64 0,.string ⟨#[]⟩,.string ⟨#[]⟩,.bool false,.int .i64 0,.int .i64 0] [(0,t45)]),oP 47 (.append 39 6 64 [.int .i64 0,.string ⟨#[]⟩,.string ⟨#[]⟩,.bool false,.int .i64 0,.int .i64 0] t44 t46)]++rS 48 t40 3 t47)))))))
def zbo_s (r_:json_reader) (n:Eng.Node):Option json_reader :=
 bif decide ((0:Int)<(r_.open_.length:Int)) then (
  gd (qAc ((r_.open_.length:Int) - (1:Int))) <|
  gd (0≤((r_.open_.length:Int) - (1:Int))∧((r_.open_.length:Int) - (1:Int))<r_.open_.length) <|
  gd ((Int.toNat ((r_.open_.length:Int) - (1:Int)))<r_.open_.length) <|
  gd (0≤(r_.open_.getD (Int.toNat ((r_.open_.length:Int) - (1:Int))) (ET.dft .i64))∧(r_.open_.getD (Int.toNat ((r_.open_.length:Int) - (1:Int))) (ET.dft .i64))<r_.out.length) <|
  gd ((Int.toNat (r_.open_.getD (Int.toNat ((r_.open_.length:Int) - (1:Int))) (ET.dft .i64)))<r_.out.length) <|
  gd ((Int.toNat (r_.open_.getD (Int.toNat ((r_.open_.length:Int) - (1:Int))) (ET.dft .i64)))<r_.out.length) <|
  gd (qAc (((r_.out.getD (Int.toNat (r_.open_.getD (Int.toNat ((r_.open_.length:Int) - (1:Int))) (ET.dft .i64))) (ET.dft .node)).kids)+(1:Int))) <|
  gd (0≤(r_.open_.getD (Int.toNat ((r_.open_.length:Int) - (1:Int))) (ET.dft .i64))∧(r_.open_.getD (Int.toNat ((r_.open_.length:Int) - (1:Int))) (ET.dft .i64))<r_.out.length) <|
  gd ((Int.toNat (r_.open_.getD (Int.toNat ((r_.open_.length:Int) - (1:Int))) (ET.dft .i64)))<r_.out.length) <|
  gd ((Int.toNat (r_.open_.getD (Int.toNat ((r_.open_.length:Int) - (1:Int))) (ET.dft .i64)))<r_.out.length) <|
  gd ((r_.out.set (Int.toNat (r_.open_.getD (Int.toNat ((r_.open_.length:Int) - (1:Int))) (ET.dft .i64))) (⟨(r_.out.getD (Int.toNat (r_.open_.getD (Int.toNat ((r_.open_.length:Int) - (1:Int))) (ET.dft .i64))) (ET.dft .node)).kind,(r_.out.getD (Int.toNat (r_.open_.getD (Int.toNat ((r_.open_.length:Int) - (1:Int))) (ET.dft .i64))) (ET.dft .node)).key,(r_.out.getD (Int.toNat (r_.open_.getD (Int.toNat ((r_.open_.length:Int) - (1:Int))) (ET.dft .i64))) (ET.dft .node)).text,(r_.out.getD (Int.toNat (r_.open_.getD (Int.toNat ((r_.open_.length:Int) - (1:Int))) (ET.dft .i64))) (ET.dft .node)).whole,(r_.out.getD (Int.toNat (r_.open_.getD (Int.toNat ((r_.open_.length:Int) - (1:Int))) (ET.dft .i64))) (ET.dft .node)).int,(((r_.out.getD (Int.toNat (r_.open_.getD (Int.toNat ((r_.open_.length:Int) - (1:Int))) (ET.dft .i64))) (ET.dft .node)).kids)+(1:Int))⟩:Eng.Node)).length+([(⟨n.kind,r_.key,n.text,n.whole,n.int,n.kids⟩:Eng.Node)]:List Eng.Node).length≤9223372036854775807∧((r_.out.set (Int.toNat (r_.open_.getD (Int.toNat ((r_.open_.length:Int) - (1:Int))) (ET.dft .i64))) (⟨(r_.out.getD (Int.toNat (r_.open_.getD (Int.toNat ((r_.open_.length:Int) - (1:Int))) (ET.dft .i64))) (ET.dft .node)).kind,(r_.out.getD (Int.toNat (r_.open_.getD (Int.toNat ((r_.open_.length:Int) - (1:Int))) (ET.dft .i64))) (ET.dft .node)).key,(r_.out.getD (Int.toNat (r_.open_.getD (Int.toNat ((r_.open_.length:Int) - (1:Int))) (ET.dft .i64))) (ET.dft .node)).text,(r_.out.getD (Int.toNat (r_.open_.getD (Int.toNat ((r_.open_.length:Int) - (1:Int))) (ET.dft .i64))) (ET.dft .node)).whole,(r_.out.getD (Int.toNat (r_.open_.getD (Int.toNat ((r_.open_.length:Int) - (1:Int))) (ET.dft .i64))) (ET.dft .node)).int,(((r_.out.getD (Int.toNat (r_.open_.getD (Int.toNat ((r_.open_.length:Int) - (1:Int))) (ET.dft .i64))) (ET.dft .node)).kids)+(1:Int))⟩:Eng.Node)).length+([(⟨n.kind,r_.key,n.text,n.whole,n.int,n.kids⟩:Eng.Node)]:List Eng.Node).length)*64≤140737488355328) <|
  some {r_ with out:=((r_.out.set (Int.toNat (r_.open_.getD (Int.toNat ((r_.open_.length:Int) - (1:Int))) (ET.dft .i64))) (⟨(r_.out.getD (Int.toNat (r_.open_.getD (Int.toNat ((r_.open_.length:Int) - (1:Int))) (ET.dft .i64))) (ET.dft .node)).kind,(r_.out.getD (Int.toNat (r_.open_.getD (Int.toNat ((r_.open_.length:Int) - (1:Int))) (ET.dft .i64))) (ET.dft .node)).key,(r_.out.getD (Int.toNat (r_.open_.getD (Int.toNat ((r_.open_.length:Int) - (1:Int))) (ET.dft .i64))) (ET.dft .node)).text,(r_.out.getD (Int.toNat (r_.open_.getD (Int.toNat ((r_.open_.length:Int) - (1:Int))) (ET.dft .i64))) (ET.dft .node)).whole,(r_.out.getD (Int.toNat (r_.open_.getD (Int.toNat ((r_.open_.length:Int) - (1:Int))) (ET.dft .i64))) (ET.dft .node)).int,(((r_.out.getD (Int.toNat (r_.open_.getD (Int.toNat ((r_.open_.length:Int) - (1:Int))) (ET.dft .i64))) (ET.dft .node)).kids)+(1:Int))⟩:Eng.Node))++[(⟨n.kind,r_.key,n.text,n.whole,n.int,n.kids⟩:Eng.Node)]),key:=(⟨#[]⟩:BA):json_reader})
 else (
  gd (r_.out.length+([(⟨n.kind,r_.key,n.text,n.whole,n.int,n.kids⟩:Eng.Node)]:List Eng.Node).length≤9223372036854775807∧(r_.out.length+([(⟨n.kind,r_.key,n.text,n.whole,n.int,n.kids⟩:Eng.Node)]:List Eng.Node).length)*64≤140737488355328) <|
  some {r_ with out:=(r_.out++[(⟨n.kind,r_.key,n.text,n.whole,n.int,n.kids⟩:Eng.Node)]),key:=(⟨#[]⟩:BA):json_reader})
def zYJP2 (y:dTy (qAa qC5 (qAa (dRow .node 39) zDJP2))):json_reader:=(⟨y.1.1,y.1.2.1,y.1.2.2.1,y.2.1,y.2.2.1,y.2.2.2.1,y.1.2.2.2.2.2.2.1,y.1.2.2.2.2.2.2.2.1,y.1.2.2.2.2.2.2.2.2.1⟩:json_reader)
def zbo_c:CS:=mkC (qAa (dVC (dCO (dH 0 0))) (qAa (dVC (dCA (qAa dZ (qAa dS (qAa dS (qAa dB (qAa dZ (qAa dZ dNil)))))))) dNil)) (qAa qC5 (qAa (dRow .node 39) zDJP2)) (fun x y=>zbo_s (zYJP2 y) (⟨x.2.1.1,x.2.1.2.1,x.2.1.2.2.1,x.2.1.2.2.2.1,x.2.1.2.2.2.2.1,x.2.1.2.2.2.2.2.1⟩:Eng.Node)) (fun x y r=>.tup []) fun x y r=>[.cells 119 [.vS r.text,.vI r.at_,.vI r.state,.own 4,.own 2,.bsl 3,.vS r.key,.vI r.code,.vI r.bad],.dead,.view .i64 y.2.2.1,.bag qA2 138 r.names,.row .node 39 r.out]
theorem zbo_val:qAh Tryd.prog 100 zbo_c:=vl0 zbo_q [] 50 4 4 [] trivial fun x y=>by
 simp only [zbo_s,-eq_self,sZ];kernel_rfl
def zbo_w:CQ:=qBk [(0,some 3,some (.node,39)),(0,some 4,some (.i64,3)),(0,some 5,some ((.bag qA2),138))] (qBq [true,true,false,true] zbo_c)
theorem zbo_ok:qAe Tryd.prog 100 zbo_w:=qAn zbo_val
def zbh_b0:IQ:=(.seq (rg 39 [oM 37 t0,oP 38 (.load (some 6) t5),oP 39 (.call 100 [t37,t38])]) (.seq (.regT 0 (.one ⟨(some 40),.mv t0,none⟩ (.one ⟨(some 41),.mv t0,none⟩ (.one ⟨(some 42),.mv t0,none⟩ (.one ⟨(some 43),.nk t42,none⟩ (.one ⟨(some 44),.faddr 4 t43,none⟩ (.one ⟨(some 46),.mv t0,none⟩ (.one ⟨(some 47),.nk t46,none⟩ (.one ⟨(some 48),.faddr 3 t47,none⟩ (.one ⟨(some 54),.mv t0,none⟩ (.one ⟨(some 55),.nk t54,none⟩ (.one ⟨(some 56),.faddr 5 t55,none⟩ (.one ⟨(some 58),.mv t6,none⟩ (.wk ⟨(some 45),.load none t44,none⟩ (.wk ⟨(some 49),.load none t48,none⟩ (.one ⟨(some 50),.len t49,none⟩ (.one ⟨(some 51),.bi .sub t50 (vI 1),none⟩ (.wk ⟨(some 57),.load none t56,none⟩ (.alt ⟨(some 52),.bslice 3 1 1 [.int .i64 0] [(0,t51)],none⟩ (.alt ⟨(some 53),.append 3 1 8 [.int .i64 0] t45 t52,none⟩ (.one ⟨(some 59),.bslice 138 1 1 [.map none] [(0,t58)],none⟩ (.one ⟨(some 60),.append 138 1 8 [.map none] t57 t59,none⟩ (.one ⟨(some 61),.nk t40,none⟩ (.one ⟨(some 62),.faddr 4 t61,none⟩ (.one ⟨none,.store 1 t62 t53,none⟩ (.one ⟨(some 63),.nk t41,none⟩ (.one ⟨(some 64),.faddr 5 t63,none⟩ (.one ⟨none,.store 1 t64 t60,none⟩ .fin)))))))) (.alt ⟨(some 59),.bslice 138 1 1 [.map none] [(0,t58)],none⟩ (.one ⟨(some 53),.append 3 1 8 [.int .i64 0] t45 t52,none⟩ (.one ⟨(some 60),.append 138 1 8 [.map none] t57 t59,none⟩ (.one ⟨(some 61),.nk t40,none⟩ (.one ⟨(some 62),.faddr 4 t61,none⟩ (.one ⟨none,.store 1 t62 t53,none⟩ (.one ⟨(some 63),.nk t41,none⟩ (.one ⟨(some 64),.faddr 5 t63,none⟩ (.one ⟨none,.store 1 t64 t60,none⟩ .fin)))))))) .stop)) (.alt ⟨(some 59),.bslice 138 1 1 [.map none] [(0,t58)],none⟩ (.one ⟨(some 52),.bslice 3 1 1 [.int .i64 0] [(0,t51)],none⟩ (.one ⟨(some 53),.append 3 1 8 [.int .i64 0] t45 t52,none⟩ (.one ⟨(some 60),.append 138 1 8 [.map none] t57 t59,none⟩ (.one ⟨(some 61),.nk t40,none⟩ (.one ⟨(some 62),.faddr 4 t61,none⟩ (.one ⟨none,.store 1 t62 t53,none⟩ (.one ⟨(some 63),.nk t41,none⟩ (.one ⟨(some 64),.faddr 5 t63,none⟩ (.one ⟨none,.store 1 t64 t60,none⟩ .fin))))))))) .stop)))))))))))))))))))) (.seq (rg 4 [oP 4 (.mv vT)]) (.canon [(1000000,some 3,.u8,0),(3000001,none,.u8,0),(1000000,some 4,.u8,0),(3000002,none,.u8,0),(1000000,some 5,.u8,0),(3000003,none,.u8,0)] [4] .ret))))
def zbh_q:IQ:=(.seq (rg 4 [oP 4 (.mv vF)]) (.seq (.seq (rg 12 (rF 7 t0 4++[oP 11 (.len t10),oP 12 (.bi .eql t11 (vI 32))])) (.cond t12 (.seq (rg 4 ([oM 13 t0]++rF 14 t0 1++[oP 18 (.call 103 [t13,(vI 11),t17]),oM 4 t18])) (.canon [(1000000,some 3,.u8,0),(3000001,none,.u8,0),(1000000,some 4,.u8,0),(3000002,none,.u8,0),(1000000,some 5,.u8,0),(3000003,none,.u8,0)] [4] .ret)) .skip)) (.seq (rg 0 (rF 19 t0 1++[oP 23 (.bi .add t22 (vI 1))]++rS 24 t19 1 t23)) (.seq (rg 0 [oP 26 (.build [.int .i64 0,.string ⟨#[]⟩,.string ⟨#[]⟩,.bool false,.int .i64 0,.int .i64 0] [(0,1,(vI 6))]),oP 5 (.alloc 39 [.int .i64 0,.string ⟨#[]⟩,.string ⟨#[]⟩,.bool false,.int .i64 0,.int .i64 0]),oN (.store 6 t5 t26)]) (.seq (rg 0 ([oM 27 t0]++rS 28 t27 2 (vI 1))) (.seq (rg 6 [oP 6 (.mv (.v (.map none)))]) (.seq (.seq (rg 31 [oM 30 t1,oP 31 (.bi .eql t30 (vC 123))]) (.cond t31 (.seq (rg 0 [oP 32 (.faddr 0 t5),oN (.store 1 t32 (vI 7))]) (.seq (rg 0 ([oM 33 t0]++rS 34 t33 2 (vI 3))) (rg 6 [oP 36 (.ext .mkmap []),oM 6 t36]))) .skip)) (.canon [(6,none,.mp,0)] [0,5,6] (.sub 0 zbh_b0)))))))))
def zbh_p0 (qGw:BA) (qGx qG0:Int) (qG5:BA) (qG1 qG4:Int) (qG2:List Eng.Node) (qGy:List Int) (qGz:qBc) (qHl:Int) (qH9 qHm:BA) (qHb:Bool) (qH8 qHk:Int) (names:MapC):Option (Bool × BA × Int × Int × BA × Int × Int × (List Eng.Node) × (List Int) × qBc) :=
 (zbo_s (⟨qGw,qGx,qG0,qG2,qGy,qGz,qG5,qG1,qG4⟩:json_reader) (⟨qHl,qH9,qHm,qHb,qH8,qHk⟩:Eng.Node)).bind fun r12 =>
 gd (qAc ((r12.out.length:Int) - (1:Int))) <|
 gd (qGy.length+([((r12.out.length:Int) - (1:Int))]:List Int).length≤9223372036854775807∧(qGy.length+([((r12.out.length:Int) - (1:Int))]:List Int).length)*8≤140737488355328) <|
 gd (r12.names.length+([(names,())]:qBc).length≤9223372036854775807∧(r12.names.length+([(names,())]:qBc).length)*8≤140737488355328) <|
 some (true,r12.text,r12.at_,r12.state,r12.key,r12.code,r12.bad,r12.out,(qGy++[((r12.out.length:Int) - (1:Int))]),(r12.names++[(names,())]))
def zbh_s (r_:json_reader) (c:Int):Option (json_reader × Bool) :=
 bif decide ((r_.open_.length:Int)=(32:Int)) then (
  (zbn_s r_ (11:Int) r_.at_).bind fun r11 =>
  some ({r11.1 with out:=r_.out,open_:=r_.open_:json_reader},r11.2))
 else (
  gd (qAc (r_.at_+(1:Int))) <|
  bif decide (c=(123:Int)) then (
   (zbh_p0 r_.text (r_.at_+(1:Int)) (3:Int) r_.key r_.code r_.bad r_.out r_.open_ r_.names (7:Int) (⟨#[]⟩:BA) (⟨#[]⟩:BA) false (0:Int) (0:Int) (some [])).bind fun o13 =>
   some ((⟨o13.2.1,o13.2.2.1,o13.2.2.2.1,o13.2.2.2.2.2.2.2.1,o13.2.2.2.2.2.2.2.2.1,o13.2.2.2.2.2.2.2.2.2,o13.2.2.2.2.1,o13.2.2.2.2.2.1,o13.2.2.2.2.2.2.1⟩:json_reader),o13.1))
  else (
   (zbh_p0 r_.text (r_.at_+(1:Int)) (1:Int) r_.key r_.code r_.bad r_.out r_.open_ r_.names (6:Int) (⟨#[]⟩:BA) (⟨#[]⟩:BA) false (0:Int) (0:Int) none).bind fun o14 =>
   some ((⟨o14.2.1,o14.2.2.1,o14.2.2.2.1,o14.2.2.2.2.2.2.2.1,o14.2.2.2.2.2.2.2.2.1,o14.2.2.2.2.2.2.2.2.2,o14.2.2.2.2.1,o14.2.2.2.2.2.1,o14.2.2.2.2.2.2.1⟩:json_reader),o14.1)))
def zbh_G:Nat→Option CQ:=tblQ [(103,zbn_w),(100,zbo_w)]
def zbh_d0:=(dQS (qAa (dSO 0 (dH 0 0)) (qAa (dSO 5 (dH 4 0)) (qAa (dSO 6 (dO 5)) dNil))) (qAa qC5 (qAa (dRow .node 39) (qAa (dRow .i64 3) (qAa (dBag qA2 138) (qAa (qCv 39 (qAa dZ (qAa dS (qAa dS (qAa dB (qAa dZ (qAa dZ dNil))))))) (qAa dMap dNil)))))))
def zbh_l0:SubQ:=fun S R kn kx kr=>(Dec.d zbh_d0 S).bind fun x=>(zbh_p0 x.2.1.1 x.2.1.2.1 x.2.1.2.2.1 x.2.1.2.2.2.2.2.2.1 x.2.1.2.2.2.2.2.2.2.1 x.2.1.2.2.2.2.2.2.2.2.1 x.2.2.1 x.2.2.2.1 x.2.2.2.2.1 x.2.2.2.2.2.1.1 x.2.2.2.2.2.1.2.1 x.2.2.2.2.2.1.2.2.1 x.2.2.2.2.2.1.2.2.2.1 x.2.2.2.2.2.1.2.2.2.2.1 x.2.2.2.2.2.1.2.2.2.2.2.1 x.2.2.2.2.2.2.1).bind fun r=>kr ⟨[sL 4 (.vB r.1)],[],[.cells 119 [.vS r.2.1,.vI r.2.2.1,.vI r.2.2.2.1,.own 4,.own 5,.bsl 6,.vS r.2.2.2.2.1,.vI r.2.2.2.2.2.1,.vI r.2.2.2.2.2.2.1],.dead,.dead,.dead,.row .node 39 r.2.2.2.2.2.2.2.1,.row .i64 3 r.2.2.2.2.2.2.2.2.1,.bag qA2 138 r.2.2.2.2.2.2.2.2.2]⟩
def zbh_L:Nat→SubQ:=tblL [(0,zbh_l0)]
theorem zbh_p0_eq (qGw:BA) (qGx qG0:Int) (qG5:BA) (qG1 qG4:Int) (qG2:List Eng.Node) (qGy:List Int) (qGz:qBc) (qHl:Int) (qH9 qHm:BA) (qHb:Bool) (qH8 qHk:Int) (names:MapC) (R:Type) (kn:QS→Option R) (kx:Nat→QS→Option R) (kr:QS→Option R) :
  Le ((zbh_p0 qGw qGx qG0 qG5 qG1 qG4 qG2 qGy qGz qHl qH9 qHm qHb qH8 qHk names).bind fun r=>kr ⟨[sL 4 (.vB r.1)],[],[.cells 119 [.vS r.2.1,.vI r.2.2.1,.vI r.2.2.2.1,.own 4,.own 5,.bsl 6,.vS r.2.2.2.2.1,.vI r.2.2.2.2.2.1,.vI r.2.2.2.2.2.2.1],.dead,.dead,.dead,.row .node 39 r.2.2.2.2.2.2.2.1,.row .i64 3 r.2.2.2.2.2.2.2.2.1,.bag qA2 138 r.2.2.2.2.2.2.2.2.2]⟩) (qA1 zbh_L zbh_G 4 7 65 zbh_b0 ⟨[sL 0 (.hd 0 0),sL 5 (.hd 4 0),sL 6 (.own 5)],[],[.cells 119 [.vS qGw,.vI qGx,.vI qG0,.own 1,.own 2,.bsl 3,.vS qG5,.vI qG1,.vI qG4],.row .node 39 qG2,.row .i64 3 qGy,.bag qA2 138 qGz,.cells 39 [.vI qHl,.vS qH9,.vS qHm,.vB qHb,.vI qH8,.vI qHk],.map names]⟩ kn kx kr):=by
 have h:∀K:(Bool × BA × Int × Int × BA × Int × Int × (List Eng.Node) × (List Int) × qBc)→Option R,Le ((zbh_p0 qGw qGx qG0 qG5 qG1 qG4 qG2 qGy qGz qHl qH9 qHm qHb qH8 qHk names).bind K) (
  (zbo_s (⟨qGw,qGx,qG0,qG2,qGy,qGz,qG5,qG1,qG4⟩:json_reader) (⟨qHl,qH9,qHm,qHb,qH8,qHk⟩:Eng.Node)).bind fun r12 =>
  gd (qAc ((r12.out.length:Int) - (1:Int))) <|
  all2 (
   all2d (
    gd (qGy.length+([((r12.out.length:Int) - (1:Int))]:List Int).length≤9223372036854775807∧(qGy.length+([((r12.out.length:Int) - (1:Int))]:List Int).length)*8≤140737488355328) <|
    gd (r12.names.length+([(names,())]:qBc).length≤9223372036854775807∧(r12.names.length+([(names,())]:qBc).length)*8≤140737488355328) <|
    (K) (true,r12.text,r12.at_,r12.state,r12.key,r12.code,r12.bad,r12.out,(qGy++[((r12.out.length:Int) - (1:Int))]),(r12.names++[(names,())])))) (
   gd (qGy.length+([((r12.out.length:Int) - (1:Int))]:List Int).length≤9223372036854775807∧(qGy.length+([((r12.out.length:Int) - (1:Int))]:List Int).length)*8≤140737488355328) <|
   gd (r12.names.length+([(names,())]:qBc).length≤9223372036854775807∧(r12.names.length+([(names,())]:qBc).length)*8≤140737488355328) <|
   (K) (true,r12.text,r12.at_,r12.state,r12.key,r12.code,r12.bad,r12.out,(qGy++[((r12.out.length:Int) - (1:Int))]),(r12.names++[(names,())])))):=fun K=>by
  unfold zbh_p0;repeat' (first | exact Le.refl _ | refine Le.gdb ?_ | refine Le.condb ?_ ?_ | refine Le.all2d ?_ | refine Le.all2b ?_ ?_ | refine Le.bindb (fun _=>?_) | refine Le.elimb (fun _=>?_) (fun _=>?_))
 exact (h _).trans (Le.of_eq (by kernel_rfl))
theorem zbh_sub0:qBe zbh_L zbh_G 4 7 65 0 zbh_b0:=sub_le zbh_d0 (fun x R kn kx kr=>(zbh_p0 x.2.1.1 x.2.1.2.1 x.2.1.2.2.1 x.2.1.2.2.2.2.2.2.1 x.2.1.2.2.2.2.2.2.2.1 x.2.1.2.2.2.2.2.2.2.2.1 x.2.2.1 x.2.2.2.1 x.2.2.2.2.1 x.2.2.2.2.2.1.1 x.2.2.2.2.2.1.2.1 x.2.2.2.2.2.1.2.2.1 x.2.2.2.2.2.1.2.2.2.1 x.2.2.2.2.2.1.2.2.2.2.1 x.2.2.2.2.2.1.2.2.2.2.2.1 x.2.2.2.2.2.2.1).bind fun r=>kr ⟨[sL 4 (.vB r.1)],[],[.cells 119 [.vS r.2.1,.vI r.2.2.1,.vI r.2.2.2.1,.own 4,.own 5,.bsl 6,.vS r.2.2.2.2.1,.vI r.2.2.2.2.2.1,.vI r.2.2.2.2.2.2.1],.dead,.dead,.dead,.row .node 39 r.2.2.2.2.2.2.2.1,.row .i64 3 r.2.2.2.2.2.2.2.2.1,.bag qA2 138 r.2.2.2.2.2.2.2.2.2]⟩) (by kernel_rfl) fun x R kn kx kr=>zbh_p0_eq x.2.1.1 x.2.1.2.1 x.2.1.2.2.1 x.2.1.2.2.2.2.2.2.1 x.2.1.2.2.2.2.2.2.2.1 x.2.1.2.2.2.2.2.2.2.2.1 x.2.2.1 x.2.2.2.1 x.2.2.2.2.1 x.2.2.2.2.2.1.1 x.2.2.2.2.2.1.2.1 x.2.2.2.2.2.1.2.2.1 x.2.2.2.2.2.1.2.2.2.1 x.2.2.2.2.2.1.2.2.2.2.1 x.2.2.2.2.2.1.2.2.2.2.2.1 x.2.2.2.2.2.2.1 R kn kx kr
def zDJP7:=(qAa (dVC (dCO (dI .u8))) dNil)
def zYJP3 (y:dTy (qAa qC5 (qAa (dRow .node 39) zDJP3))):json_reader:=(⟨y.1.1,y.1.2.1,y.1.2.2.1,y.2.1,y.2.2.1,y.2.2.2.1,y.1.2.2.2.2.2.2.1,y.1.2.2.2.2.2.2.2.1,y.1.2.2.2.2.2.2.2.2.1⟩:json_reader)
def zbh_c:CS:=mkC (qAa (dVC (dCO (dH 0 0))) zDJP7) (qAa qC5 (qAa (dRow .node 39) zDJP3)) (fun x y=>zbh_s (zYJP3 y) x.2.1) (fun x y r=>.c (.o (.vB r.2))) fun x y r=>[.cells 119 [.vS r.1.text,.vI r.1.at_,.vI r.1.state,.own 4,.own 5,.bsl 6,.vS r.1.key,.vI r.1.code,.vI r.1.bad],.dead,.dead,.dead,.row .node 39 r.1.out,.row .i64 3 r.1.open_,.bag qA2 138 r.1.names]
theorem zbh_val:qAh Tryd.prog 98 zbh_c:=vl1 zbh_q [.tmp 4] 65 7 4 (show qA3 zbh_L zbh_G 4 7 65 [(0,zbh_b0)] from ⟨zbh_sub0,tV⟩) (qAr ⟨zbn_ok,zbo_ok,tV⟩) fun x y=>by
 simp only [zbh_s,-eq_self,sZ];kernel_rfl
def zbh_w:CQ:=qBk [(0,some 3,some (.node,39)),(0,some 4,some (.i64,3)),(0,some 5,some ((.bag qA2),138))] (qBq [true,true,true,true] zbh_c)
theorem zbh_ok:qAe Tryd.prog 98 zbh_w:=qAn zbh_val
def zbu_q:IQ:=(.seq (rg 2 [oP 2 (.mv vF)]) (.seq (rg 2 ([oM 3 t0]++rF 4 t0 1++[oP 8 (.call 103 [t3,(vI 31),t7]),oM 2 t8])) (.cn [2] .ret)))
def zbu_s (r_:json_reader):Option (json_reader × Bool) :=
 (zbn_s r_ (31:Int) r_.at_).bind fun r2 =>
 some ({r2.1 with out:=r_.out,open_:=r_.open_:json_reader},r2.2)
def zbu_c:CS:=mkC (qAa (dVC (dCO (dH 0 0))) dNil) (qAa qC5 (qAa (qBn .node) zDJP2)) (fun x y=>zbu_s (zYJP0 y)) (fun x y r=>.c (.o (.vB r.2))) fun x y r=>[.cells 119 [.vS r.1.text,.vI r.1.at_,.vI r.1.state,.own 1,.own 2,.bsl 3,.vS r.1.key,.vI r.1.code,.vI r.1.bad],.view .node y.2.1,.view .i64 y.2.2.1,.bag qA2 138 r.1.names]
theorem zbu_val:qAh Tryd.prog 91 zbu_c:=vl0 zbu_q [.tmp 2] 9 3 4 [(103,zbn_w)] ⟨zbn_ok,tV⟩ fun x y=>by
 simp only [zbu_s,-eq_self,sZ];kernel_rfl
def zbu_w:CQ:=qBk [(0,some 3,some (.node,39)),(0,some 4,some (.i64,3)),(0,some 5,some ((.bag qA2),138))] (qBq [true,false,false,true] zbu_c)
theorem zbu_ok:qAe Tryd.prog 91 zbu_w:=qAn zbu_val
def zbg_q:IQ:=(.seq (rg 3 [oP 2 (.mv (.v (.int .i32 0))),oP 3 (.mv vF)]) (.seq (.block 0 (.seq (rg 4 [oM 5 t0,oP 6 (.bi .geq t5 (vC 48)),oM 7 t6,oF 8 (.mv t0) 7,oF 9 (.bi .leq t8 (vC 57)) 7,oP 10 (.pick t7 t9 vF),oM 4 t10]) (.cond t4 (.seq (rg 3 [oM 11 t0,oP 12 (.bi .sub t11 (vC 48)),oP 13 (.conv false .i32 t12),oM 2 t13,oP 3 (.mv vT)]) (.cn [2,3] .ret)) (.seq (rg 14 [oM 15 t0,oP 16 (.bi .geq t15 (vC 97)),oM 17 t16,oF 18 (.mv t0) 17,oF 19 (.bi .leq t18 (vC 102)) 17,oP 20 (.pick t17 t19 vF),oM 14 t20]) (.cond t14 (.seq (rg 3 [oM 21 t0,oP 22 (.bi .sub t21 (vC 97)),oP 23 (.conv false .i32 t22),oP 24 (.bi .add t23 (.v (.int .i32 10))),oM 2 t24,oP 3 (.mv vT)]) (.cn [2,3] .ret)) (.seq (rg 25 [oM 26 t0,oP 27 (.bi .geq t26 (vC 65)),oM 28 t27,oF 29 (.mv t0) 28,oF 30 (.bi .leq t29 (vC 70)) 28,oP 31 (.pick t28 t30 vF),oM 25 t31]) (.cond t25 (.seq (rg 3 [oM 32 t0,oP 33 (.bi .sub t32 (vC 65)),oP 34 (.conv false .i32 t33),oP 35 (.bi .add t34 (.v (.int .i32 10))),oM 2 t35,oP 3 (.mv vT)]) (.cn [2,3] .ret)) .skip))))))) (.seq (rg 3 [oP 2 (.mv (.v (.int .i32 0))),oP 3 (.mv vF)]) (.cn [2,3] .ret))))
def zbg_s (c:Int):Option (Int × Bool) :=
 bif ((decide ((48:Int)≤c)) && (decide (c≤(57:Int)))) then (
  gd (qCf ((c - (48:Int)) % 256)) <|
  some (((c - (48:Int)) % 256),true))
 else (
  bif ((decide ((97:Int)≤c)) && (decide (c≤(102:Int)))) then (
   gd (qCf ((c - (97:Int)) % 256)) <|
   gd (qCf (((c - (97:Int)) % 256)+(10:Int))) <|
   some ((((c - (97:Int)) % 256)+(10:Int)),true))
  else (
   bif ((decide ((65:Int)≤c)) && (decide (c≤(70:Int)))) then (
    gd (qCf ((c - (65:Int)) % 256)) <|
    gd (qCf (((c - (65:Int)) % 256)+(10:Int))) <|
    some ((((c - (65:Int)) % 256)+(10:Int)),true))
   else (
    some ((0:Int),false))))
def zbg_c:CS:=mkC (qAa (dVC (dCO (dI .u8))) dNil) dNil (fun x y=>zbg_s x.1) (fun x y r=>.tup [.o (.val (.int .i32 r.1)),.o (.vB r.2)]) fun x y r=>[]
theorem zbg_val:qAh Tryd.prog 121 zbg_c:=vl0 zbg_q [.tmp 2,.tmp 3] 36 4 0 [] trivial fun x y=>by
 simp only [zbg_s,-eq_self,sZ];kernel_rfl
def zbg_w:CQ:=qCw [] zbg_c
theorem zbg_ok:qAe Tryd.prog 121 zbg_w:=qAs zbg_val
def zbz_b1:IQ:=(.join [] [0,1,2,8,10,12] (.cond t40 (.seq (rg 7 [oM 75 t0,oM 76 t1,oP 77 (.call 103 [t75,(vI 33),t76]),oP 6 (.mv (.v (.int .i32 0))),oM 7 t77]) (.cn [6,7] .ret)) .skip))
def zbz_b0:IQ:=(.loop [0,1,2,8,12] (.seq (rg 13 [oP 13 (.bi .lss t12 (vI 4))]) (.seq (.cond t13 .skip (.cn [8] (.exit 0))) (.seq (.block 1 (.seq (rg 9 [oM 14 t12,oM 9 t14]) (.seq (.seq (.reg 24 (some [0,1,2,3,4,5,6,7,8,9]) (rF 15 t0 1++rF 19 t0 0++[oP 23 (.lenS t22),oP 24 (.bi .eql t18 t23)])) (.cond t24 (.seq (rg 7 [oM 25 t0,oP 26 (.call 91 [t25]),oP 6 (.mv (.v (.int .i32 0))),oM 7 t26]) (.cn [6,7] .ret)) .skip)) (.seq (.reg 11 (some [0,1,2,3,4,5,6,7,8,9,10,11,12,13,14]) (rF 28 t0 0++rF 32 t0 1++[oP 36 (.index t31 t35),oP 37 (.call 121 [t36]),oM 27 t37,oP 38 (.extract t27 0),oP 39 (.extract t27 1),oM 10 t38,oM 11 t39])) (.seq (.block 2 (.seq (.seq (rg 40 [oM 41 t11,oP 42 (.un .not t41),oM 40 t42]) (.cond t40 .skip (.seq (rg 40 [oM 43 t9,oP 44 (.bi .eql t43 (vI 0)),oM 45 t44,oF 46 (.mv t2) 45,oP 47 (.pick t45 t46 vF),oM 48 t47,oF 49 (.mv t10) 48,oF 50 (.bi .neq t49 (.v (.int .i32 13))) 48,oP 51 (.pick t48 t50 vF),oM 40 t51]) (.cond t40 .skip (.seq (rg 40 [oM 52 t9,oP 53 (.bi .eql t52 (vI 1)),oM 54 t53,oF 55 (.mv t2) 54,oP 56 (.pick t54 t55 vF),oM 57 t56,oF 58 (.mv t10) 57,oF 59 (.bi .lss t58 (.v (.int .i32 12))) 57,oP 60 (.pick t57 t59 vF),oM 40 t60]) (.cond t40 .skip (rg 40 [oM 61 t9,oP 62 (.bi .eql t61 (vI 1)),oM 63 t62,oF 64 (.mv t2) 63,oF 65 (.un .not t64) 63,oP 66 (.pick t63 t65 vF),oM 67 t66,oF 68 (.mv t8) 67,oF 69 (.bi .eql t68 (.v (.int .i32 13))) 67,oP 70 (.pick t67 t69 vF),oM 71 t70,oF 72 (.mv t10) 71,oF 73 (.bi .geq t72 (.v (.int .i32 12))) 71,oP 74 (.pick t71 t73 vF),oM 40 t74]))))))) (.cn [0,1,2,8,10,12,40] (.sub 1 zbz_b1)))) (.seq (rg 8 [oM 78 t8,oP 79 (.bi .shl t78 (.v (.int .u64 4))),oM 80 t10,oP 81 (.bi .or t79 t80),oM 8 t81]) (rg 0 (rF 82 t0 1++[oP 86 (.bi .add t85 (vI 1))]++rS 87 t82 1 t86)))))))) (rg 12 [oP 89 (.bi .add t12 (vI 1)),oM 12 t89])))))
def zbz_q:IQ:=(.seq (rg 7 [oP 6 (.mv (.v (.int .i32 0))),oP 7 (.mv vF)]) (.seq (rg 8 [oP 8 (.mv (.v (.int .i32 0)))]) (.seq (.seq (rg 12 [oP 12 (.mv (vI 0))]) (.block 0 (.cn [0,1,2,8,12] (.sub 0 zbz_b0)))) (.seq (rg 7 [oM 90 t8,oM 6 t90,oP 7 (.mv vT)]) (.cn [6,7] .ret)))))
def zbz_p1 (from_:Int) (x40_:Bool) (qGw:BA) (qGx qG0:Int) (qG5:BA) (qG1 qG4:Int) (qG2:List Eng.Node) (qGy:List Int) (qGz:qBc):Option ((Int × Bool × BA × Int × Int × BA × Int × Int × qBc) ⊕ Unit) :=
 bif x40_ then (
  (zbn_s (⟨qGw,qGx,qG0,qG2,qGy,qGz,qG5,qG1,qG4⟩:json_reader) (33:Int) from_).bind fun r23 =>
  some (.inl ((0:Int),r23.2,r23.1.text,r23.1.at_,r23.1.state,r23.1.key,r23.1.code,r23.1.bad,r23.1.names)))
 else (
  some (.inr ()))
def qB0 (from_:Int) (low:Bool) (u x12_:Int) (qGw:BA) (qGx qG0:Int) (qG5:BA) (qG1 qG4:Int) (qG2:List Eng.Node) (qGy:List Int) (qGz:qBc):Option ((Int × Int × Int) ⊕ ((Int × Bool × BA × Int × Int × BA × Int × Int × qBc) ⊕ (Int × Int))) :=
 bif decide (x12_<(4:Int)) then (
  bif decide (qGx=(qGw.size:Int)) then (
   (zbu_s (⟨qGw,qGx,qG0,qG2,qGy,qGz,qG5,qG1,qG4⟩:json_reader)).bind fun r21 =>
   some (.inr (.inl ((0:Int),r21.2,r21.1.text,r21.1.at_,r21.1.state,r21.1.key,r21.1.code,r21.1.bad,r21.1.names))))
  else (
   gd (0≤qGx∧qGx<qGw.size) <|
   (zbg_s (bAt qGw qGx)).bind fun r22 =>
   bif (!r22.2) then (
    (zbz_p1 from_ (!r22.2) qGw qGx qG0 qG5 qG1 qG4 qG2 qGy qGz).bind fun o24=>(Sum.elim (fun (o24_0:Int × Bool × BA × Int × Int × BA × Int × Int × qBc) =>
     some (.inr (.inl (o24_0.1,o24_0.2.1,o24_0.2.2.1,o24_0.2.2.2.1,o24_0.2.2.2.2.1,o24_0.2.2.2.2.2.1,o24_0.2.2.2.2.2.2.1,o24_0.2.2.2.2.2.2.2.1,o24_0.2.2.2.2.2.2.2.2)))) (fun (o24_1:Unit) =>
     gd (0≤(4:Int)) <|
     gd (qCf (u*16)) <|
     gd (qAc (qGx+(1:Int))) <|
     gd (qAc (x12_+(1:Int))) <|
     some (.inl ((qAk .i32 (u*16) r22.1),(x12_+(1:Int)),(qGx+(1:Int)))))) o24)
   else (
    bif (((decide (x12_=(0:Int))) && low) && (!decide (r22.1=(13:Int)))) then (
     (zbz_p1 from_ (((decide (x12_=(0:Int))) && low) && (!decide (r22.1=(13:Int)))) qGw qGx qG0 qG5 qG1 qG4 qG2 qGy qGz).bind fun o25=>(Sum.elim (fun (o25_0:Int × Bool × BA × Int × Int × BA × Int × Int × qBc) =>
      some (.inr (.inl (o25_0.1,o25_0.2.1,o25_0.2.2.1,o25_0.2.2.2.1,o25_0.2.2.2.2.1,o25_0.2.2.2.2.2.1,o25_0.2.2.2.2.2.2.1,o25_0.2.2.2.2.2.2.2.1,o25_0.2.2.2.2.2.2.2.2)))) (fun (o25_1:Unit) =>
      gd (0≤(4:Int)) <|
      gd (qCf (u*16)) <|
      gd (qAc (qGx+(1:Int))) <|
      gd (qAc (x12_+(1:Int))) <|
      some (.inl ((qAk .i32 (u*16) r22.1),(x12_+(1:Int)),(qGx+(1:Int)))))) o25)
    else (
     bif (((decide (x12_=(1:Int))) && low) && (decide (r22.1<(12:Int)))) then (
      (zbz_p1 from_ (((decide (x12_=(1:Int))) && low) && (decide (r22.1<(12:Int)))) qGw qGx qG0 qG5 qG1 qG4 qG2 qGy qGz).bind fun o26=>(Sum.elim (fun (o26_0:Int × Bool × BA × Int × Int × BA × Int × Int × qBc) =>
       some (.inr (.inl (o26_0.1,o26_0.2.1,o26_0.2.2.1,o26_0.2.2.2.1,o26_0.2.2.2.2.1,o26_0.2.2.2.2.2.1,o26_0.2.2.2.2.2.2.1,o26_0.2.2.2.2.2.2.2.1,o26_0.2.2.2.2.2.2.2.2)))) (fun (o26_1:Unit) =>
       gd (0≤(4:Int)) <|
       gd (qCf (u*16)) <|
       gd (qAc (qGx+(1:Int))) <|
       gd (qAc (x12_+(1:Int))) <|
       some (.inl ((qAk .i32 (u*16) r22.1),(x12_+(1:Int)),(qGx+(1:Int)))))) o26)
     else (
      (zbz_p1 from_ ((((decide (x12_=(1:Int))) && (!low)) && (decide (u=(13:Int)))) && (decide ((12:Int)≤r22.1))) qGw qGx qG0 qG5 qG1 qG4 qG2 qGy qGz).bind fun o27=>(Sum.elim (fun (o27_0:Int × Bool × BA × Int × Int × BA × Int × Int × qBc) =>
       some (.inr (.inl (o27_0.1,o27_0.2.1,o27_0.2.2.1,o27_0.2.2.2.1,o27_0.2.2.2.2.1,o27_0.2.2.2.2.2.1,o27_0.2.2.2.2.2.2.1,o27_0.2.2.2.2.2.2.2.1,o27_0.2.2.2.2.2.2.2.2)))) (fun (o27_1:Unit) =>
       gd (0≤(4:Int)) <|
       gd (qCf (u*16)) <|
       gd (qAc (qGx+(1:Int))) <|
       gd (qAc (x12_+(1:Int))) <|
       some (.inl ((qAk .i32 (u*16) r22.1),(x12_+(1:Int)),(qGx+(1:Int)))))) o27)))))
 else (
  some (.inr (.inr (u,qGx))))
def zbz_p0 (from_:Int) (low:Bool) (u x12_:Int) (qGw:BA) (qGx qG0:Int) (qG5:BA) (qG1 qG4:Int) (qG2:List Eng.Node) (qGy:List Int) (qGz:qBc):Option ((Int × Bool × BA × Int × Int × BA × Int × Int × qBc) ⊕ (Int × Int)) :=
 qAw (fun x:(Int × Int × Int)=>qB0 from_ low x.1 x.2.1 qGw x.2.2 qG0 qG5 qG1 qG4 qG2 qGy qGz) (u,x12_,qGx)
def zbz_s (r_:json_reader) (from_:Int) (low:Bool):Option (json_reader × Int × Bool) :=
 (zbz_p0 from_ low (0:Int) (0:Int) r_.text r_.at_ r_.state r_.key r_.code r_.bad r_.out r_.open_ r_.names).bind fun o28=>(Sum.elim (fun (o28_0:Int × Bool × BA × Int × Int × BA × Int × Int × qBc) =>
  some ((⟨o28_0.2.2.1,o28_0.2.2.2.1,o28_0.2.2.2.2.1,r_.out,r_.open_,o28_0.2.2.2.2.2.2.2.2,o28_0.2.2.2.2.2.1,o28_0.2.2.2.2.2.2.1,o28_0.2.2.2.2.2.2.2.1⟩:json_reader),o28_0.1,o28_0.2.1)) (fun (o28_1:Int × Int) =>
  some ({r_ with at_:=o28_1.2:json_reader},o28_1.1,true))) o28
def zbz_G:Nat→Option CQ:=tblQ [(91,zbu_w),(121,zbg_w),(103,zbn_w)]
def zbz_d1:=(dQS (qAa (dSO 0 (dH 0 0)) (qAa (dSO 1 dZ) (qAa (dSO 2 dB) (qAa (dSO 8 (dI .i32)) (qAa (dSO 10 (dI .i32)) (qAa (dSO 12 dZ) (qAa (dSO 40 dB) dNil))))))) zDJP5)
def zbz_l1:SubQ:=mkL zbz_d1 (fun x=>zbz_p1 x.1.2.1 x.1.2.2.2.2.2.2.1 x.2.1.1 x.2.1.2.1 x.2.1.2.2.1 x.2.1.2.2.2.2.2.2.1 x.2.1.2.2.2.2.2.2.2.1 x.2.1.2.2.2.2.2.2.2.2.1 x.2.2.1 x.2.2.2.1 x.2.2.2.2.1) fun x r R kn kx kr=>(Sum.elim (fun (r_0:Int × Bool × BA × Int × Int × BA × Int × Int × qBc)=>kr ⟨[(6,[],.c (.o (.val (.int .i32 r_0.1)))),sL 7 (.vB r_0.2.1)],[],[.cells 119 [.vS r_0.2.2.1,.vI r_0.2.2.2.1,.vI r_0.2.2.2.2.1,.own 1,.own 2,.bsl 3,.vS r_0.2.2.2.2.2.1,.vI r_0.2.2.2.2.2.2.1,.vI r_0.2.2.2.2.2.2.2.1],.view .node x.2.2.1,.view .i64 x.2.2.2.1,.bag qA2 138 r_0.2.2.2.2.2.2.2.2]⟩) (fun (r_1:Unit)=>kn ⟨[sL 0 (.hd 0 0),sL 1 (.vI x.1.2.1),sL 2 (.vB x.1.2.2.1),(8,[],.c (.o (.val (.int .i32 x.1.2.2.2.1)))),(10,[],.c (.o (.val (.int .i32 x.1.2.2.2.2.1)))),sL 12 (.vI x.1.2.2.2.2.2.1)],[],[.cells 119 [.vS x.2.1.1,.vI x.2.1.2.1,.vI x.2.1.2.2.1,.own 1,.own 2,.bsl 3,.vS x.2.1.2.2.2.2.2.2.1,.vI x.2.1.2.2.2.2.2.2.2.1,.vI x.2.1.2.2.2.2.2.2.2.2.1],.view .node x.2.2.1,.view .i64 x.2.2.2.1,.bag qA2 138 x.2.2.2.2.1]⟩)) r
def zbz_d0:=(dQS (qAa (dSO 0 (dH 0 0)) (qAa (dSO 1 dZ) (qAa (dSO 2 dB) (qAa (dSO 8 (dI .i32)) (qAa (dSO 12 dZ) dNil))))) zDJP5)
def zbz_l0:SubQ:=mkL zbz_d0 (fun x=>zbz_p0 x.1.2.1 x.1.2.2.1 x.1.2.2.2.1 x.1.2.2.2.2.1 x.2.1.1 x.2.1.2.1 x.2.1.2.2.1 x.2.1.2.2.2.2.2.2.1 x.2.1.2.2.2.2.2.2.2.1 x.2.1.2.2.2.2.2.2.2.2.1 x.2.2.1 x.2.2.2.1 x.2.2.2.2.1) fun x r R kn kx kr=>(Sum.elim (fun (r_0:Int × Bool × BA × Int × Int × BA × Int × Int × qBc)=>kr ⟨[(6,[],.c (.o (.val (.int .i32 r_0.1)))),sL 7 (.vB r_0.2.1)],[],[.cells 119 [.vS r_0.2.2.1,.vI r_0.2.2.2.1,.vI r_0.2.2.2.2.1,.own 1,.own 2,.bsl 3,.vS r_0.2.2.2.2.2.1,.vI r_0.2.2.2.2.2.2.1,.vI r_0.2.2.2.2.2.2.2.1],.view .node x.2.2.1,.view .i64 x.2.2.2.1,.bag qA2 138 r_0.2.2.2.2.2.2.2.2]⟩) (fun (r_1:Int × Int)=>kx 0 ⟨[(8,[],.c (.o (.val (.int .i32 r_1.1))))],[],[.cells 119 [.vS x.2.1.1,.vI r_1.2,.vI x.2.1.2.2.1,.own 1,.own 2,.bsl 3,.vS x.2.1.2.2.2.2.2.2.1,.vI x.2.1.2.2.2.2.2.2.2.1,.vI x.2.1.2.2.2.2.2.2.2.2.1],.view .node x.2.2.1,.view .i64 x.2.2.2.1,.bag qA2 138 x.2.2.2.2.1]⟩)) r
def zbz_L:Nat→SubQ:=tblL [(1,zbz_l1),(0,zbz_l0)]
theorem zbz_sub1:qBe zbz_L zbz_G 4 13 91 1 zbz_b1:=qAo (show zbz_L 1=zbz_l1 from by kernel_rfl) fun x R kn kx kr=>by
 simp only [zbz_p1,-eq_self,sZ];kernel_rfl
theorem zbz_sub0:qBe zbz_L zbz_G 4 13 91 0 zbz_b0:=qAo (show zbz_L 0=zbz_l0 from by kernel_rfl) fun x R kn kx kr=>qAl (step:=fun y=>qB0 x.1.2.1 x.1.2.2.1 y.1 y.2.1 x.2.1.1 y.2.2 x.2.1.2.2.1 x.2.1.2.2.2.2.2.2.1 x.2.1.2.2.2.2.2.2.2.1 x.2.1.2.2.2.2.2.2.2.2.1 x.2.2.1 x.2.2.2.1 x.2.2.2.2.1) (enc:=fun (y:Int × Int × Int)=>zbz_d0.e ((x.1.1,x.1.2.1,x.1.2.2.1,y.1,y.2.1,x.1.2.2.2.2.2),((x.2.1.1,y.2.2,x.2.1.2.2),x.2.2))) (fun y=>by kernel_rfl) (fun y ki=>by simp only [qB0,-eq_self,sZ]; kernel_rfl) (x.1.2.2.2.1,x.1.2.2.2.2.1,x.2.1.2.1)
def zbz_c:CS:=mkC (qAa (dVC (dCO (dH 0 0))) (qAa (dVC (dCO dZ)) (qAa (dVC (dCO dB)) dNil))) (qAa qC5 (qAa (qBn .node) zDJP2)) (fun x y=>zbz_s (zYJP0 y) x.2.1 x.2.2.1) (fun x y r=>.tup [.o (.val (.int .i32 r.2.1)),.o (.vB r.2.2)]) fun x y r=>[.cells 119 [.vS r.1.text,.vI r.1.at_,.vI r.1.state,.own 1,.own 2,.bsl 3,.vS r.1.key,.vI r.1.code,.vI r.1.bad],.view .node y.2.1,.view .i64 y.2.2.1,.bag qA2 138 r.1.names]
theorem zbz_val:qAh Tryd.prog 115 zbz_c:=vl1 zbz_q [.tmp 6,.tmp 7] 91 13 4 (show qA3 zbz_L zbz_G 4 13 91 [(0,zbz_b0),(1,zbz_b1)] from ⟨zbz_sub0,zbz_sub1,tV⟩) (qAr ⟨zbu_ok,zbg_ok,zbn_ok,tV⟩) fun x y=>by
 simp only [zbz_s,-eq_self,sZ];kernel_rfl
def zbz_w:CQ:=qBk [(0,some 3,some (.node,39)),(0,some 4,some (.i64,3)),(0,some 5,some ((.bag qA2),138))] (qBq [true,false,false,true] zbz_c)
theorem zbz_ok:qAe Tryd.prog 115 zbz_w:=qAn zbz_val
def zbv_b0:IQ:=(.loop [0,1,6,30,31,32] (.seq (rg 33 [oP 33 (.bi .lss t32 t31)]) (.seq (.cond t33 .skip (.cn [0,1,6] (.exit 0))) (.seq (.block 1 (.seq (rg 9 [oP 34 (.iaddr 1 t30 t32),oP 35 (.load none t34),oM 9 t35]) (.seq (.seq (.reg 45 (some [0,1,2,3,4,5,6,7,8,9]) (rF 36 t0 1++rF 40 t0 0++[oP 44 (.lenS t43),oP 45 (.bi .eql t39 t44)])) (.cond t45 (.seq (rg 5 [oM 46 t0,oP 47 (.call 91 [t46]),oP 4 (.mv (.v (.int .i32 0))),oM 5 t47]) (.cn [4,5] .ret)) .skip)) (.seq (.seq (.reg 58 (some [0,1,2,3,4,5,6,7,8,9,10]) (rF 48 t0 0++rF 52 t0 1++[oP 56 (.index t51 t55),oM 57 t9,oP 58 (.bi .neq t56 t57)])) (.cond t58 (.seq (rg 5 [oM 59 t0,oM 60 t1,oP 61 (.call 103 [t59,(vI 33),t60]),oP 4 (.mv (.v (.int .i32 0))),oM 5 t61]) (.cn [4,5] .ret)) .skip)) (rg 0 (rF 62 t0 1++[oP 66 (.bi .add t65 (vI 1))]++rS 67 t62 1 t66)))))) (rg 32 [oP 69 (.bi .add t32 (vI 1)),oM 32 t69])))))
def zbv_q:IQ:=(.seq (rg 5 [oP 4 (.mv (.v (.int .i32 0))),oP 5 (.mv vF)]) (.seq (rg 7 [oM 12 t0,oM 13 t1,oP 14 (.call 115 [t12,t13,vF]),oM 11 t14,oP 15 (.extract t11 0),oP 16 (.extract t11 1),oM 6 t15,oM 7 t16]) (.seq (.seq (rg 26 [oM 17 t7,oP 18 (.un .not t17),oM 19 t18,oE 20 (.mv t6) 19,oE 21 (.bi .lss t20 (.v (.int .i32 55296))) 19,oP 22 (.pick t19 vT t21),oM 23 t22,oE 24 (.mv t6) 23,oE 25 (.bi .gtr t24 (.v (.int .i32 57343))) 23,oP 26 (.pick t23 vT t25)]) (.cond t26 (.seq (rg 5 [oM 27 t6,oM 28 t7,oM 4 t27,oM 5 t28]) (.cn [4,5] .ret)) .skip)) (.seq (.seq (rg 32 [oP 29 (.bslice 5 1 2 [.int .u8 0] [(0,(vC 92)),(1,(vC 117))]),oP 30 (.ext .fro [t29]),oP 31 (.len t30),oP 32 (.mv (vI 0))]) (.block 0 (.cn [0,1,6,30,31,32] (.sub 0 zbv_b0)))) (.seq (rg 7 [oM 71 t0,oM 72 t1,oP 73 (.call 115 [t71,t72,vT]),oM 70 t73,oP 74 (.extract t70 0),oP 75 (.extract t70 1),oM 10 t74,oM 7 t75]) (.seq (rg 5 [oM 76 t6,oP 77 (.bi .sub t76 (.v (.int .i32 55296))),oP 78 (.bi .shl t77 (.v (.int .u64 10))),oP 79 (.bi .add (.v (.int .i32 65536)) t78),oM 80 t10,oP 81 (.bi .sub t80 (.v (.int .i32 56320))),oP 82 (.bi .add t79 t81),oM 83 t7,oM 4 t82,oM 5 t83]) (.cn [4,5] .ret)))))))
def qCn (from_ x31_ x32_:Int) (qGw:BA) (qGx qG0:Int) (qG5:BA) (qG1 qG4:Int) (qG2:List Eng.Node) (qGy:List Int) (qGz:qBc) (x30_:List Int):Option ((Int × Int) ⊕ ((Int × Bool × BA × Int × Int × BA × Int × Int × qBc) ⊕ Int)) :=
 bif decide (x32_<x31_) then (
  gd (0≤x32_∧x32_<x30_.length) <|
  gd ((Int.toNat x32_)<x30_.length) <|
  bif decide (qGx=(qGw.size:Int)) then (
   (zbu_s (⟨qGw,qGx,qG0,qG2,qGy,qGz,qG5,qG1,qG4⟩:json_reader)).bind fun r9 =>
   some (.inr (.inl ((0:Int),r9.2,r9.1.text,r9.1.at_,r9.1.state,r9.1.key,r9.1.code,r9.1.bad,r9.1.names))))
  else (
   gd (0≤qGx∧qGx<qGw.size) <|
   bif (!decide ((bAt qGw qGx)=(x30_.getD (Int.toNat x32_) (ET.dft .u8)))) then (
    (zbn_s (⟨qGw,qGx,qG0,qG2,qGy,qGz,qG5,qG1,qG4⟩:json_reader) (33:Int) from_).bind fun r10 =>
    some (.inr (.inl ((0:Int),r10.2,r10.1.text,r10.1.at_,r10.1.state,r10.1.key,r10.1.code,r10.1.bad,r10.1.names))))
   else (
    gd (qAc (qGx+(1:Int))) <|
    gd (qAc (x32_+(1:Int))) <|
    some (.inl ((x32_+(1:Int)),(qGx+(1:Int)))))))
 else (
  some (.inr (.inr qGx)))
def zbv_p0 (from_ x31_ x32_:Int) (qGw:BA) (qGx qG0:Int) (qG5:BA) (qG1 qG4:Int) (qG2:List Eng.Node) (qGy:List Int) (qGz:qBc) (x30_:List Int):Option ((Int × Bool × BA × Int × Int × BA × Int × Int × qBc) ⊕ Int) :=
 qAw (fun x:(Int × Int)=>qCn from_ x31_ x.1 qGw x.2 qG0 qG5 qG1 qG4 qG2 qGy qGz x30_) (x32_,qGx)
def zbv_s (r_:json_reader) (from_:Int):Option (json_reader × Int × Bool) :=
 (zbz_s r_ from_ false).bind fun r8 =>
 bif (((!r8.2.2) || (decide (r8.2.1<(55296:Int)))) || (decide ((57343:Int)<r8.2.1))) then (
  some ({r8.1 with out:=r_.out,open_:=r_.open_:json_reader},r8.2.1,r8.2.2))
 else (
  gd (0<([(92:Int),(117:Int)]:List Int).length) <|
  (zbv_p0 from_ ([(92:Int),(117:Int)].length:Int) (0:Int) r8.1.text r8.1.at_ r8.1.state r8.1.key r8.1.code r8.1.bad r_.out r_.open_ r8.1.names [(92:Int),(117:Int)]).bind fun o11=>(Sum.elim (fun (o11_0:Int × Bool × BA × Int × Int × BA × Int × Int × qBc) =>
   some ((⟨o11_0.2.2.1,o11_0.2.2.2.1,o11_0.2.2.2.2.1,r_.out,r_.open_,o11_0.2.2.2.2.2.2.2.2,o11_0.2.2.2.2.2.1,o11_0.2.2.2.2.2.2.1,o11_0.2.2.2.2.2.2.2.1⟩:json_reader),o11_0.1,o11_0.2.1)) (fun (o11_1:Int) =>
   (zbz_s {r8.1 with at_:=o11_1,out:=r_.out,open_:=r_.open_:json_reader} from_ true).bind fun r12 =>
   gd (qCf (r8.2.1 - (55296:Int))) <|
   gd (0≤(10:Int)) <|
   gd (qCf ((r8.2.1 - (55296:Int))*1024)) <|
   gd (qCf ((65536:Int)+((r8.2.1 - (55296:Int))*1024))) <|
   gd (qCf (r12.2.1 - (56320:Int))) <|
   gd (qCf (((65536:Int)+((r8.2.1 - (55296:Int))*1024))+(r12.2.1 - (56320:Int)))) <|
   some ({r12.1 with out:=r_.out,open_:=r_.open_:json_reader},(((65536:Int)+((r8.2.1 - (55296:Int))*1024))+(r12.2.1 - (56320:Int))),r12.2.2))) o11)
def zbv_G:Nat→Option CQ:=tblQ [(115,zbz_w),(91,zbu_w),(103,zbn_w)]
def zbv_d0:=(dQS (qAa (dSO 0 (dH 0 0)) (qAa (dSO 1 dZ) (qAa (dSO 6 (dI .i32)) (qAa (dSO 30 (dO 4)) (qAa (dSO 31 dZ) (qAa (dSO 32 dZ) dNil)))))) (qAa qC5 (qAa (qBn .node) (qAa (qBn .i64) (qAa (dBag qA2 138) (qAa (qBn .u8) dNil))))))
def zbv_l0:SubQ:=mkL zbv_d0 (fun x=>zbv_p0 x.1.2.1 x.1.2.2.2.2.1 x.1.2.2.2.2.2.1 x.2.1.1 x.2.1.2.1 x.2.1.2.2.1 x.2.1.2.2.2.2.2.2.1 x.2.1.2.2.2.2.2.2.2.1 x.2.1.2.2.2.2.2.2.2.2.1 x.2.2.1 x.2.2.2.1 x.2.2.2.2.1 x.2.2.2.2.2.1) fun x r R kn kx kr=>(Sum.elim (fun (r_0:Int × Bool × BA × Int × Int × BA × Int × Int × qBc)=>kr ⟨[(4,[],.c (.o (.val (.int .i32 r_0.1)))),sL 5 (.vB r_0.2.1)],[],[.cells 119 [.vS r_0.2.2.1,.vI r_0.2.2.2.1,.vI r_0.2.2.2.2.1,.own 1,.own 2,.bsl 3,.vS r_0.2.2.2.2.2.1,.vI r_0.2.2.2.2.2.2.1,.vI r_0.2.2.2.2.2.2.2.1],.view .node x.2.2.1,.view .i64 x.2.2.2.1,.bag qA2 138 r_0.2.2.2.2.2.2.2.2]⟩) (fun (r_1:Int)=>kx 0 ⟨[sL 0 (.hd 0 0),sL 1 (.vI x.1.2.1),(6,[],.c (.o (.val (.int .i32 x.1.2.2.1))))],[],[.cells 119 [.vS x.2.1.1,.vI r_1,.vI x.2.1.2.2.1,.own 1,.own 2,.bsl 3,.vS x.2.1.2.2.2.2.2.2.1,.vI x.2.1.2.2.2.2.2.2.2.1,.vI x.2.1.2.2.2.2.2.2.2.2.1],.view .node x.2.2.1,.view .i64 x.2.2.2.1,.bag qA2 138 x.2.2.2.2.1]⟩)) r
def zbv_L:Nat→SubQ:=tblL [(0,zbv_l0)]
theorem zbv_sub0:qBe zbv_L zbv_G 4 33 84 0 zbv_b0:=qAo (show zbv_L 0=zbv_l0 from by kernel_rfl) fun x R kn kx kr=>qAl (step:=fun y=>qCn x.1.2.1 x.1.2.2.2.2.1 y.1 x.2.1.1 y.2 x.2.1.2.2.1 x.2.1.2.2.2.2.2.2.1 x.2.1.2.2.2.2.2.2.2.1 x.2.1.2.2.2.2.2.2.2.2.1 x.2.2.1 x.2.2.2.1 x.2.2.2.2.1 x.2.2.2.2.2.1) (enc:=fun (y:Int × Int)=>zbv_d0.e ((x.1.1,x.1.2.1,x.1.2.2.1,x.1.2.2.2.1,x.1.2.2.2.2.1,y.1,x.1.2.2.2.2.2.2),((x.2.1.1,y.2,x.2.1.2.2),x.2.2))) (fun y=>by kernel_rfl) (fun y ki=>by simp only [qCn,-eq_self,sZ]; kernel_rfl) (x.1.2.2.2.2.2.1,x.2.1.2.1)
def zbv_c:CS:=mkC (qAa (dVC (dCO (dH 0 0))) (qAa (dVC (dCO dZ)) dNil)) (qAa qC5 (qAa (qBn .node) zDJP2)) (fun x y=>zbv_s (zYJP0 y) x.2.1) (fun x y r=>.tup [.o (.val (.int .i32 r.2.1)),.o (.vB r.2.2)]) fun x y r=>[.cells 119 [.vS r.1.text,.vI r.1.at_,.vI r.1.state,.own 1,.own 2,.bsl 3,.vS r.1.key,.vI r.1.code,.vI r.1.bad],.view .node y.2.1,.view .i64 y.2.2.1,.bag qA2 138 r.1.names]
theorem zbv_val:qAh Tryd.prog 110 zbv_c:=vl1 zbv_q [.tmp 4,.tmp 5] 84 33 4 (show qA3 zbv_L zbv_G 4 33 84 [(0,zbv_b0)] from ⟨zbv_sub0,tV⟩) (qAr ⟨zbz_ok,zbu_ok,zbn_ok,tV⟩) fun x y=>by
 simp only [zbv_s,-eq_self,sZ];kernel_rfl
def zbv_w:CQ:=qBk [(0,some 3,some (.node,39)),(0,some 4,some (.i64,3)),(0,some 5,some ((.bag qA2),138))] (qBq [true,false,false,true] zbv_c)
theorem zbv_ok:qAe Tryd.prog 110 zbv_w:=qAn zbv_val
def zbm_b0:IQ:=(.loop [0,4,5,57,58] (.seq (rg 59 [oP 59 (.bi .lss t58 (vI 8))]) (.seq (.cond t59 .skip (.cn [0,4] (.exit 1))) (.seq (.block 2 (.seq (rg 0 [oP 60 (.ext (.aidx 2 8) [t57,t58]),oP 7 (.alloc 146 [.int .u8 0,.int .u8 0]),oN (.store 2 t7 t60)]) (.seq (rg 64 [oM 61 t5,oP 62 (.faddr 0 t7),oP 63 (.load none t62),oP 64 (.bi .eql t61 t63)]) (.cond t64 (.seq (rg 0 (rF 65 t0 1++[oP 69 (.bi .add t68 (vI 1))]++rS 70 t65 1 t69)) (.seq (rg 3 [oP 72 (.faddr 1 t7),oP 73 (.load none t72),oP 74 (.conv false .i32 t73),oM 2 t74,oP 3 (.mv vT)]) (.cn [2,3] .ret))) .skip)))) (rg 58 [oP 75 (.bi .add t58 (vI 1)),oM 58 t75])))))
def zbm_q:IQ:=(.seq (rg 3 [oP 2 (.mv (.v (.int .i32 0))),oP 3 (.mv vF)]) (.seq (rg 4 (rF 8 t0 1++[oM 4 t11])) (.seq (rg 0 (rF 12 t0 1++[oP 16 (.bi .add t15 (vI 1))]++rS 17 t12 1 t16)) (.seq (rg 5 [oM 19 t0,oP 20 (.call 88 [t19]),oM 5 t20]) (.seq (.block 0 (.seq (.reg 21 (some [0,1,2,3,4,5,6,7,8,9,10]) (rF 22 t0 1++rF 26 t0 0++[oP 30 (.lenS t29),oP 31 (.bi .eql t25 t30),oM 21 t31])) (.cond t21 (.seq (rg 3 [oM 32 t0,oP 33 (.call 91 [t32]),oP 2 (.mv (.v (.int .i32 0))),oM 3 t33]) (.cn [2,3] .ret)) (.seq (rg 34 [oM 35 t5,oP 36 (.bi .eql t35 (vC 117)),oM 34 t36]) (.cond t34 (.seq (rg 0 (rF 37 t0 1++[oP 41 (.bi .add t40 (vI 1))]++rS 42 t37 1 t41)) (.seq (rg 3 [oM 44 t0,oM 45 t4,oP 46 (.call 110 [t44,t45]),oP 47 (.extract t46 0),oP 48 (.extract t46 1),oM 2 t47,oM 3 t48]) (.cn [2,3] .ret))) .skip))))) (.seq (.seq (rg 58 [oP 49 (.build [.int .u8 0,.int .u8 0] [(0,1,(vC 34)),(1,1,(vC 34))]),oP 50 (.build [.int .u8 0,.int .u8 0] [(0,1,(vC 92)),(1,1,(vC 92))]),oP 51 (.build [.int .u8 0,.int .u8 0] [(0,1,(vC 47)),(1,1,(vC 47))]),oP 52 (.build [.int .u8 0,.int .u8 0] [(0,1,(vC 98)),(1,1,(vC 8))]),oP 53 (.build [.int .u8 0,.int .u8 0] [(0,1,(vC 102)),(1,1,(vC 12))]),oP 54 (.build [.int .u8 0,.int .u8 0] [(0,1,(vC 110)),(1,1,(vC 10))]),oP 55 (.build [.int .u8 0,.int .u8 0] [(0,1,(vC 114)),(1,1,(vC 13))]),oP 56 (.build [.int .u8 0,.int .u8 0] [(0,1,(vC 116)),(1,1,(vC 9))]),oP 57 (.build [.int .u8 0,.int .u8 0,.int .u8 0,.int .u8 0,.int .u8 0,.int .u8 0,.int .u8 0,.int .u8 0,.int .u8 0,.int .u8 0,.int .u8 0,.int .u8 0,.int .u8 0,.int .u8 0,.int .u8 0,.int .u8 0] [(0,2,t49),(2,2,t50),(4,2,t51),(6,2,t52),(8,2,t53),(10,2,t54),(12,2,t55),(14,2,t56)]),oP 58 (.mv (vI 0))]) (.block 1 (.cn [0,4,5,57,58] (.sub 0 zbm_b0)))) (.seq (rg 3 [oM 76 t0,oM 77 t4,oP 78 (.call 103 [t76,(vI 33),t77]),oP 2 (.mv (.v (.int .i32 0))),oM 3 t78]) (.cn [2,3] .ret))))))))
def qCm (c x570_ x571_ x572_ x573_ x574_ x575_ x576_ x577_ x578_ x579_ x5710_ x5711_ x5712_ x5713_ x5714_ x5715_ x58_ qGx:Int):Option (Int ⊕ ((Int × Bool × Int) ⊕ Unit)) :=
 bif decide (x58_<(8:Int)) then (
  gd (0≤x58_∧x58_<8) <|
  bif decide (c=(([x570_,x571_,x572_,x573_,x574_,x575_,x576_,x577_,x578_,x579_,x5710_,x5711_,x5712_,x5713_,x5714_,x5715_]:List Int).getD (Int.toNat x58_*2+0) 0)) then (
   gd (qAc (qGx+(1:Int))) <|
   gd (qCf (([x570_,x571_,x572_,x573_,x574_,x575_,x576_,x577_,x578_,x579_,x5710_,x5711_,x5712_,x5713_,x5714_,x5715_]:List Int).getD (Int.toNat x58_*2+1) 0)) <|
   some (.inr (.inl ((([x570_,x571_,x572_,x573_,x574_,x575_,x576_,x577_,x578_,x579_,x5710_,x5711_,x5712_,x5713_,x5714_,x5715_]:List Int).getD (Int.toNat x58_*2+1) 0),true,(qGx+(1:Int))))))
  else (
   gd (qAc (x58_+(1:Int))) <|
   some (.inl (x58_+(1:Int)))))
 else (
  some (.inr (.inr ())))
def zbm_p0 (c x570_ x571_ x572_ x573_ x574_ x575_ x576_ x577_ x578_ x579_ x5710_ x5711_ x5712_ x5713_ x5714_ x5715_ x58_ qGx:Int):Option ((Int × Bool × Int) ⊕ Unit) :=
 qAw (fun x:Int=>qCm c x570_ x571_ x572_ x573_ x574_ x575_ x576_ x577_ x578_ x579_ x5710_ x5711_ x5712_ x5713_ x5714_ x5715_ x qGx) x58_
def zbm_s (r_:json_reader):Option (json_reader × Int × Bool) :=
 gd (qAc (r_.at_+(1:Int))) <|
 (zbs_s {r_ with at_:=(r_.at_+(1:Int)):json_reader}).bind fun r6 =>
 bif decide ((r_.at_+(1:Int))=(r_.text.size:Int)) then (
  (zbu_s {r_ with at_:=(r_.at_+(1:Int)):json_reader}).bind fun r7 =>
  some ({r7.1 with out:=r_.out,open_:=r_.open_:json_reader},(0:Int),r7.2))
 else (
  bif decide (r6=(117:Int)) then (
   gd (qAc ((r_.at_+(1:Int))+(1:Int))) <|
   (zbv_s {r_ with at_:=((r_.at_+(1:Int))+(1:Int)):json_reader} r_.at_).bind fun r8 =>
   some ({r8.1 with out:=r_.out,open_:=r_.open_:json_reader},r8.2.1,r8.2.2))
  else (
   (zbm_p0 r6 (34:Int) (34:Int) (92:Int) (92:Int) (47:Int) (47:Int) (98:Int) (8:Int) (102:Int) (12:Int) (110:Int) (10:Int) (114:Int) (13:Int) (116:Int) (9:Int) (0:Int) (r_.at_+(1:Int))).bind fun o9=>(Sum.elim (fun (o9_0:Int × Bool × Int) =>
    some ({r_ with at_:=o9_0.2.2:json_reader},o9_0.1,o9_0.2.1)) (fun (o9_1:Unit) =>
    (zbn_s {r_ with at_:=(r_.at_+(1:Int)):json_reader} (33:Int) r_.at_).bind fun r10 =>
    some ({r10.1 with out:=r_.out,open_:=r_.open_:json_reader},(0:Int),r10.2))) o9))
def zbm_G:Nat→Option CQ:=tblQ [(88,zbs_w),(91,zbu_w),(110,zbv_w),(103,zbn_w)]
def zbm_d0:=(dQS (qAa (dSO 0 (dH 0 0)) (qAa (dSO 4 dZ) (qAa (dSO 5 (dI .u8)) (qAa (dSl 57 (dVC (dCA (qAa (dI .u8) (qAa (dI .u8) (qAa (dI .u8) (qAa (dI .u8) (qAa (dI .u8) (qAa (dI .u8) (qAa (dI .u8) (qAa (dI .u8) (qAa (dI .u8) (qAa (dI .u8) (qAa (dI .u8) (qAa (dI .u8) (qAa (dI .u8) (qAa (dI .u8) (qAa (dI .u8) (qAa (dI .u8) dNil))))))))))))))))))) (qAa (dSO 58 dZ) dNil))))) zDJP5)
def zbm_l0:SubQ:=mkL zbm_d0 (fun x=>zbm_p0 x.1.2.2.1 x.1.2.2.2.1.1 x.1.2.2.2.1.2.1 x.1.2.2.2.1.2.2.1 x.1.2.2.2.1.2.2.2.1 x.1.2.2.2.1.2.2.2.2.1 x.1.2.2.2.1.2.2.2.2.2.1 x.1.2.2.2.1.2.2.2.2.2.2.1 x.1.2.2.2.1.2.2.2.2.2.2.2.1 x.1.2.2.2.1.2.2.2.2.2.2.2.2.1 x.1.2.2.2.1.2.2.2.2.2.2.2.2.2.1 x.1.2.2.2.1.2.2.2.2.2.2.2.2.2.2.1 x.1.2.2.2.1.2.2.2.2.2.2.2.2.2.2.2.1 x.1.2.2.2.1.2.2.2.2.2.2.2.2.2.2.2.2.1 x.1.2.2.2.1.2.2.2.2.2.2.2.2.2.2.2.2.2.1 x.1.2.2.2.1.2.2.2.2.2.2.2.2.2.2.2.2.2.2.1 x.1.2.2.2.1.2.2.2.2.2.2.2.2.2.2.2.2.2.2.2.1 x.1.2.2.2.2.1 x.2.1.2.1) fun x r R kn kx kr=>(Sum.elim (fun (r_0:Int × Bool × Int)=>kr ⟨[(2,[],.c (.o (.val (.int .i32 r_0.1)))),sL 3 (.vB r_0.2.1)],[],[.cells 119 [.vS x.2.1.1,.vI r_0.2.2,.vI x.2.1.2.2.1,.own 1,.own 2,.bsl 3,.vS x.2.1.2.2.2.2.2.2.1,.vI x.2.1.2.2.2.2.2.2.2.1,.vI x.2.1.2.2.2.2.2.2.2.2.1],.view .node x.2.2.1,.view .i64 x.2.2.2.1,.bag qA2 138 x.2.2.2.2.1]⟩) (fun (r_1:Unit)=>kx 1 ⟨[sL 0 (.hd 0 0),sL 4 (.vI x.1.2.1)],[],[.cells 119 [.vS x.2.1.1,.vI x.2.1.2.1,.vI x.2.1.2.2.1,.own 1,.own 2,.bsl 3,.vS x.2.1.2.2.2.2.2.2.1,.vI x.2.1.2.2.2.2.2.2.2.1,.vI x.2.1.2.2.2.2.2.2.2.2.1],.view .node x.2.2.1,.view .i64 x.2.2.2.1,.bag qA2 138 x.2.2.2.2.1]⟩)) r
def zbm_L:Nat→SubQ:=tblL [(0,zbm_l0)]
theorem zbm_sub0:qBe zbm_L zbm_G 4 59 79 0 zbm_b0:=qAo (show zbm_L 0=zbm_l0 from by kernel_rfl) fun x R kn kx kr=>qAl (step:=fun y=>qCm x.1.2.2.1 x.1.2.2.2.1.1 x.1.2.2.2.1.2.1 x.1.2.2.2.1.2.2.1 x.1.2.2.2.1.2.2.2.1 x.1.2.2.2.1.2.2.2.2.1 x.1.2.2.2.1.2.2.2.2.2.1 x.1.2.2.2.1.2.2.2.2.2.2.1 x.1.2.2.2.1.2.2.2.2.2.2.2.1 x.1.2.2.2.1.2.2.2.2.2.2.2.2.1 x.1.2.2.2.1.2.2.2.2.2.2.2.2.2.1 x.1.2.2.2.1.2.2.2.2.2.2.2.2.2.2.1 x.1.2.2.2.1.2.2.2.2.2.2.2.2.2.2.2.1 x.1.2.2.2.1.2.2.2.2.2.2.2.2.2.2.2.2.1 x.1.2.2.2.1.2.2.2.2.2.2.2.2.2.2.2.2.2.1 x.1.2.2.2.1.2.2.2.2.2.2.2.2.2.2.2.2.2.2.1 x.1.2.2.2.1.2.2.2.2.2.2.2.2.2.2.2.2.2.2.2.1 y x.2.1.2.1) (enc:=fun (y:Int)=>zbm_d0.e ((x.1.1,x.1.2.1,x.1.2.2.1,x.1.2.2.2.1,y,x.1.2.2.2.2.2),x.2)) (fun y=>by kernel_rfl) (fun y ki=>by simp only [qCm,-eq_self,sZ]; kernel_rfl) x.1.2.2.2.2.1
def zbm_c:CS:=mkC (qAa (dVC (dCO (dH 0 0))) dNil) (qAa qC5 (qAa (qBn .node) zDJP2)) (fun x y=>zbm_s (zYJP0 y)) (fun x y r=>.tup [.o (.val (.int .i32 r.2.1)),.o (.vB r.2.2)]) fun x y r=>[.cells 119 [.vS r.1.text,.vI r.1.at_,.vI r.1.state,.own 1,.own 2,.bsl 3,.vS r.1.key,.vI r.1.code,.vI r.1.bad],.view .node y.2.1,.view .i64 y.2.2.1,.bag qA2 138 r.1.names]
theorem zbm_val:qAh Tryd.prog 105 zbm_c:=vl1 zbm_q [.tmp 2,.tmp 3] 79 59 4 (show qA3 zbm_L zbm_G 4 59 79 [(0,zbm_b0)] from ⟨zbm_sub0,tV⟩) (qAr ⟨zbs_ok,zbu_ok,zbv_ok,zbn_ok,tV⟩) fun x y=>by
 simp only [zbm_s,-eq_self,sZ];kernel_rfl
def zbm_w:CQ:=qBk [(0,some 3,some (.node,39)),(0,some 4,some (.i64,3)),(0,some 5,some ((.bag qA2),138))] (qBq [true,false,false,true] zbm_c)
theorem zbm_ok:qAe Tryd.prog 105 zbm_w:=qAn zbm_val
def zcy_b0:IQ:=(.cond t25 (.seq (rg 4 [oM 34 t0,oM 35 t1,oP 36 (.bi .shr t35 (.v (.int .u64 12))),oP 37 (.conv false .u8 t36),oP 38 (.bi .or (vC 224) t37),oM 39 t1,oP 40 (.bi .shr t39 (.v (.int .u64 6))),oP 41 (.conv false .u8 t40),oP 42 (.bi .and t41 (vC 63)),oP 43 (.bi .or (vC 128) t42),oM 44 t1,oP 45 (.conv false .u8 t44),oP 46 (.bi .and t45 (vC 63)),oP 47 (.bi .or (vC 128) t46),oP 48 (.bslice 5 1 3 [.int .u8 0] [(0,t38),(1,t43),(2,t47)]),oP 49 (.append 5 1 1 [.int .u8 0] t34 t48),oM 4 t49]) (.canon [(4,none,.u8,5)] [4] .ret)) (.seq (rg 50 [oM 51 t5,oP 52 (.bi .gtr t51 (.v (.int .u32 65535))),oM 53 t52,oF 54 (.mv t5) 53,oF 55 (.bi .leq t54 (.v (.int .u32 1114111))) 53,oP 56 (.pick t53 t55 vF),oM 50 t56]) (.cond t50 (.seq (rg 4 [oM 57 t0,oM 58 t1,oP 59 (.bi .shr t58 (.v (.int .u64 18))),oP 60 (.conv false .u8 t59),oP 61 (.bi .or (vC 240) t60),oM 62 t1,oP 63 (.bi .shr t62 (.v (.int .u64 12))),oP 64 (.conv false .u8 t63),oP 65 (.bi .and t64 (vC 63)),oP 66 (.bi .or (vC 128) t65),oM 67 t1,oP 68 (.bi .shr t67 (.v (.int .u64 6))),oP 69 (.conv false .u8 t68),oP 70 (.bi .and t69 (vC 63)),oP 71 (.bi .or (vC 128) t70),oM 72 t1,oP 73 (.conv false .u8 t72),oP 74 (.bi .and t73 (vC 63)),oP 75 (.bi .or (vC 128) t74),oP 76 (.bslice 5 1 4 [.int .u8 0] [(0,t61),(1,t66),(2,t71),(3,t75)]),oP 77 (.append 5 1 1 [.int .u8 0] t57 t76),oM 4 t77]) (.canon [(4,none,.u8,5)] [4] .ret)) (.seq (rg 4 [oM 8 t0,oP 9 (.bslice 5 1 3 [.int .u8 0] [(0,(vC 239)),(1,(vC 191)),(2,(vC 189))]),oP 10 (.append 5 1 1 [.int .u8 0] t8 t9),oM 4 t10]) (.canon [(4,none,.u8,5)] [4] .ret)))))
def zcy_q:IQ:=(.seq (rg 4 [oP 4 (.mv (.v (.slice none 0 0)))]) (.seq (rg 5 [oM 6 t1,oP 7 (.conv false .u32 t6),oM 5 t7]) (.block 0 (.seq (rg 11 [oM 12 t5,oP 13 (.bi .leq t12 (.v (.int .u32 2047))),oM 11 t13]) (.cond t11 (.seq (rg 4 [oM 14 t0,oM 15 t1,oP 16 (.bi .shr t15 (.v (.int .u64 6))),oP 17 (.conv false .u8 t16),oP 18 (.bi .or (vC 192) t17),oM 19 t1,oP 20 (.conv false .u8 t19),oP 21 (.bi .and t20 (vC 63)),oP 22 (.bi .or (vC 128) t21),oP 23 (.bslice 5 1 2 [.int .u8 0] [(0,t18),(1,t22)]),oP 24 (.append 5 1 1 [.int .u8 0] t14 t23),oM 4 t24]) (.canon [(4,none,.u8,5)] [4] .ret)) (.seq (.seq (rg 25 [oM 26 t5,oP 27 (.bi .lss t26 (.v (.int .u32 55296))),oM 25 t27]) (.cond t25 .skip (rg 25 [oM 28 t5,oP 29 (.bi .lss (.v (.int .u32 57343)) t28),oM 30 t29,oF 31 (.mv t5) 30,oF 32 (.bi .leq t31 (.v (.int .u32 65535))) 30,oP 33 (.pick t30 t32 vF),oM 25 t33]))) (.cn [0,1,5,25] (.sub 0 zcy_b0))))))))
def zcy_p0 (r_ i:Int) (x25_:Bool) (p:List Int):Option ((List Int)) :=
 bif x25_ then (
  gd (0≤(12:Int)) <|
  gd (0≤(6:Int)) <|
  gd (p.length+([(qAk .u8 (224:Int) ((r_ / 4096) % 256)),(qAk .u8 (128:Int) (qAi .u8 ((r_ / 64) % 256) (63:Int))),(qAk .u8 (128:Int) (qAi .u8 (r_ % 256) (63:Int)))]:List Int).length≤9223372036854775807∧(p.length+([(qAk .u8 (224:Int) ((r_ / 4096) % 256)),(qAk .u8 (128:Int) (qAi .u8 ((r_ / 64) % 256) (63:Int))),(qAk .u8 (128:Int) (qAi .u8 (r_ % 256) (63:Int)))]:List Int).length)*1≤140737488355328) <|
  some (p++[(qAk .u8 (224:Int) ((r_ / 4096) % 256)),(qAk .u8 (128:Int) (qAi .u8 ((r_ / 64) % 256) (63:Int))),(qAk .u8 (128:Int) (qAi .u8 (r_ % 256) (63:Int)))]))
 else (
  bif ((decide ((65535:Int)<i)) && (decide (i≤(1114111:Int)))) then (
   gd (0≤(18:Int)) <|
   gd (0≤(12:Int)) <|
   gd (0≤(6:Int)) <|
   gd (p.length+([(qAk .u8 (240:Int) ((r_ / 262144) % 256)),(qAk .u8 (128:Int) (qAi .u8 ((r_ / 4096) % 256) (63:Int))),(qAk .u8 (128:Int) (qAi .u8 ((r_ / 64) % 256) (63:Int))),(qAk .u8 (128:Int) (qAi .u8 (r_ % 256) (63:Int)))]:List Int).length≤9223372036854775807∧(p.length+([(qAk .u8 (240:Int) ((r_ / 262144) % 256)),(qAk .u8 (128:Int) (qAi .u8 ((r_ / 4096) % 256) (63:Int))),(qAk .u8 (128:Int) (qAi .u8 ((r_ / 64) % 256) (63:Int))),(qAk .u8 (128:Int) (qAi .u8 (r_ % 256) (63:Int)))]:List Int).length)*1≤140737488355328) <|
   some (p++[(qAk .u8 (240:Int) ((r_ / 262144) % 256)),(qAk .u8 (128:Int) (qAi .u8 ((r_ / 4096) % 256) (63:Int))),(qAk .u8 (128:Int) (qAi .u8 ((r_ / 64) % 256) (63:Int))),(qAk .u8 (128:Int) (qAi .u8 (r_ % 256) (63:Int)))]))
  else (
   gd (p.length+([(239:Int),(191:Int),(189:Int)]:List Int).length≤9223372036854775807∧(p.length+([(239:Int),(191:Int),(189:Int)]:List Int).length)*1≤140737488355328) <|
   some (p++[(239:Int),(191:Int),(189:Int)])))
def zcy_s (p:(List Int)) (r_:Int):Option ((List Int)) :=
 bif decide ((r_ % 4294967296)≤(2047:Int)) then (
  gd (0≤(6:Int)) <|
  gd (p.length+([(qAk .u8 (192:Int) ((r_ / 64) % 256)),(qAk .u8 (128:Int) (qAi .u8 (r_ % 256) (63:Int)))]:List Int).length≤9223372036854775807∧(p.length+([(qAk .u8 (192:Int) ((r_ / 64) % 256)),(qAk .u8 (128:Int) (qAi .u8 (r_ % 256) (63:Int)))]:List Int).length)*1≤140737488355328) <|
  some (p++[(qAk .u8 (192:Int) ((r_ / 64) % 256)),(qAk .u8 (128:Int) (qAi .u8 (r_ % 256) (63:Int)))]))
 else (
  bif decide ((r_ % 4294967296)<(55296:Int)) then (
   (zcy_p0 r_ (r_ % 4294967296) (decide ((r_ % 4294967296)<(55296:Int))) p).bind fun o1 =>
   some o1)
  else (
   (zcy_p0 r_ (r_ % 4294967296) ((decide ((57343:Int)<(r_ % 4294967296))) && (decide ((r_ % 4294967296)≤(65535:Int)))) p).bind fun o2 =>
   some o2))
def zcy_G:Nat→Option CQ:=tblQ []
def zcy_d0:=(dQS (qAa (dSO 0 (dO 0)) (qAa (dSO 1 (dI .i32)) (qAa (dSO 5 (dI .u32)) (qAa (dSO 25 dB) dNil)))) (qAa (dRow .u8 5) dNil))
def zcy_l0:SubQ:=mkL zcy_d0 (fun x=>zcy_p0 x.1.2.1 x.1.2.2.1 x.1.2.2.2.1 x.2.1) fun x r R kn kx kr=>kr ⟨[sL 4 (.own 1)],[],[.dead,.row .u8 5 r]⟩
def zcy_L:Nat→SubQ:=tblL [(0,zcy_l0)]
theorem zcy_sub0:qBe zcy_L zcy_G 1 6 78 0 zcy_b0:=qAo (show zcy_L 0=zcy_l0 from by kernel_rfl) fun x R kn kx kr=>by
 simp only [zcy_p0,-eq_self,sZ];kernel_rfl
def zcy_c:CS:=mkC (qAa (dVC (dCO (dO 0))) (qAa (dVC (dCO (dI .i32))) dNil)) (qAa (dRow .u8 5) dNil) (fun x y=>zcy_s y.1 x.2.1) (fun x y r=>.c (.o (.own 1))) fun x y r=>[.dead,.row .u8 5 r]
theorem zcy_val:qAh Tryd.prog 111 zcy_c:=vl1 zcy_q [.tmp 4] 78 6 1 (show qA3 zcy_L zcy_G 1 6 78 [(0,zcy_b0)] from ⟨zcy_sub0,tV⟩) (fun f C h=>by cases h) fun x y=>by
 simp only [zcy_s,-eq_self,sZ];kernel_rfl
def zcy_w:CQ:=qBk [(0,none,some (.u8,5))] (qBq [true] zcy_c)
theorem zcy_ok:qAe Tryd.prog 111 zcy_w:=qAn zcy_val
def zcx_q:IQ:=(.seq (rg 4 [oP 4 (.mv (.v (.slice none 0 0)))]) (.seq (.seq (rg 7 [oM 5 t1,oP 6 (.conv false .u32 t5),oP 7 (.bi .leq t6 (.v (.int .u32 127)))]) (.cond t7 (.seq (rg 4 [oM 8 t0,oM 9 t1,oP 10 (.conv false .u8 t9),oP 11 (.bslice 5 1 1 [.int .u8 0] [(0,t10)]),oP 12 (.append 5 1 1 [.int .u8 0] t8 t11),oM 4 t12]) (.canon [(4,none,.u8,5)] [4] .ret)) .skip)) (.seq (rg 4 [oM 13 t0,oM 14 t1,oP 15 (.call 111 [t13,t14]),oM 4 t15]) (.canon [(4,none,.u8,5)] [4] .ret))))
def zcx_s (p:(List Int)) (r_:Int):Option ((List Int)) :=
 bif decide ((r_ % 4294967296)≤(127:Int)) then (
  gd (p.length+([(r_ % 256)]:List Int).length≤9223372036854775807∧(p.length+([(r_ % 256)]:List Int).length)*1≤140737488355328) <|
  some (p++[(r_ % 256)]))
 else (
  (zcy_s p r_).bind fun r1 =>
  some r1)
def zcx_c:CS:=mkC (qAa (dVC (dCO (dO 0))) (qAa (dVC (dCO (dI .i32))) dNil)) (qAa (dRow .u8 5) dNil) (fun x y=>zcx_s y.1 x.2.1) (fun x y r=>.c (.o (.own 1))) fun x y r=>[.dead,.row .u8 5 r]
theorem zcx_val:qAh Tryd.prog 106 zcx_c:=vl0 zcx_q [.tmp 4] 16 5 1 [(111,zcy_w)] ⟨zcy_ok,tV⟩ fun x y=>by
 simp only [zcx_s,-eq_self,sZ];kernel_rfl
def zcx_w:CQ:=qBk [(0,none,some (.u8,5))] (qBq [true] zcx_c)
theorem zcx_ok:qAe Tryd.prog 106 zcx_w:=qAn zcx_val
def zbx_q:IQ:=(.seq (rg 3 [oP 2 (.mv (vI 0)),oP 3 (.mv vF)]) (.seq (.reg 5 (some [0,1,2,3,4,5,6,7,8,9,10,11,12,13,14]) (rF 7 t0 0++rF 11 t0 1++[oP 15 (.sub none t10 (some t14) none),oP 16 (.call 112 [t15]),oM 6 t16,oP 17 (.extract t6 0),oP 18 (.extract t6 1),oM 4 t17,oM 5 t18])) (.seq (.seq (rg 24 [oM 19 t4,oP 20 (.bi .neq t19 (.v (.int .i32 65533))),oM 21 t20,oE 22 (.mv t5) 21,oE 23 (.bi .gtr t22 (vI 1)) 21,oP 24 (.pick t21 vT t23)]) (.cond t24 (.seq (rg 3 [oM 25 t5,oM 2 t25,oP 3 (.mv vT)]) (.cn [2,3] .ret)) .skip)) (.seq (.seq (.reg 36 (some [0,1,2,3,4,5,6,7,8,9,10]) (rF 26 t0 0++rF 30 t0 1++[oP 34 (.sub none t29 (some t33) none),oP 35 (.call 113 [t34]),oP 36 (.un .not t35)])) (.cond t36 (.seq (rg 3 ([oM 37 t0]++rF 38 t0 0++[oP 42 (.lenS t41),oP 43 (.call 103 [t37,(vI 31),t42]),oP 2 (.mv (vI 0)),oM 3 t43])) (.cn [2,3] .ret)) .skip)) (.seq (rg 3 ([oM 44 t0]++rF 45 t0 1++[oP 49 (.call 103 [t44,(vI 32),t48]),oP 2 (.mv (vI 0)),oM 3 t49])) (.cn [2,3] .ret))))))
def zbx_s (r_:json_reader):Option (json_reader × Int × Bool) :=
 gd (0≤r_.at_∧r_.at_≤(r_.text.size:Int)∧(r_.text.size:Int)≤r_.text.size) <|
 (qBb (r_.text.extract (Int.toNat r_.at_) r_.text.size)).bind fun r4 =>
 bif ((!decide (r4.1=(65533:Int))) || (decide ((1:Int)<r4.2))) then (
  some (r_,r4.2,true))
 else (
  gd (0≤r_.at_∧r_.at_≤(r_.text.size:Int)∧(r_.text.size:Int)≤r_.text.size) <|
  (qBr (r_.text.extract (Int.toNat r_.at_) r_.text.size)).bind fun r5 =>
  bif (!r5) then (
   (zbn_s r_ (31:Int) (r_.text.size:Int)).bind fun r6 =>
   some ({r6.1 with out:=r_.out,open_:=r_.open_:json_reader},(0:Int),r6.2))
  else (
   (zbn_s r_ (32:Int) r_.at_).bind fun r7 =>
   some ({r7.1 with out:=r_.out,open_:=r_.open_:json_reader},(0:Int),r7.2)))
def zbx_c:CS:=mkC (qAa (dVC (dCO (dH 0 0))) dNil) (qAa qC5 (qAa (qBn .node) zDJP2)) (fun x y=>zbx_s (zYJP0 y)) (fun x y r=>.tup [.o (.vI r.2.1),.o (.vB r.2.2)]) fun x y r=>[.cells 119 [.vS r.1.text,.vI r.1.at_,.vI r.1.state,.own 1,.own 2,.bsl 3,.vS r.1.key,.vI r.1.code,.vI r.1.bad],.view .node y.2.1,.view .i64 y.2.2.1,.bag qA2 138 r.1.names]
theorem zbx_val:qAh Tryd.prog 107 zbx_c:=vl0 zbx_q [.tmp 2,.tmp 3] 50 6 4 [(112,qCz),(113,qDi),(103,zbn_w)] ⟨qFr,qGt,zbn_ok,tV⟩ fun x y=>by
 simp only [zbx_s,-eq_self,sZ];kernel_rfl
def zbx_w:CQ:=qBk [(0,some 3,some (.node,39)),(0,some 4,some (.i64,3)),(0,some 5,some ((.bag qA2),138))] (qBq [true,false,false,true] zbx_c)
theorem zbx_ok:qAe Tryd.prog 107 zbx_w:=qAn zbx_val
def zbw_b0:IQ:=(.loop [0,4] (.block 1 (.seq (.seq (.reg 26 (some [0,1,2,3,4,5,6,7,8,9]) (rF 17 t0 1++rF 21 t0 0++[oP 25 (.lenS t24),oP 26 (.bi .eql t20 t25)])) (.cond t26 (.seq (rg 3 [oM 27 t0,oP 28 (.call 91 [t27]),oP 2 (.mv (.v (.string ⟨#[]⟩))),oM 3 t28]) (.cn [2,3] .ret)) .skip)) (.seq (.reg 5 (some [0,1,2,3,4,5,6,7,8,9]) (rF 29 t0 0++rF 33 t0 1++[oP 37 (.index t32 t36),oM 5 t37])) (.block 2 (.seq (rg 70 [oM 71 t5,oP 72 (.bi .eql t71 (vC 34)),oM 70 t72]) (.cond t70 (.seq (rg 0 (rF 73 t0 1++[oP 77 (.bi .add t76 (vI 1))]++rS 78 t73 1 t77)) (.seq (rg 3 [oM 80 t4,oP 81 (.ext .toStr [t80]),oM 2 t81,oP 3 (.mv vT)]) (.cn [2,3] .ret))) (.seq (rg 82 [oM 83 t5,oP 84 (.bi .eql t83 (vC 92)),oM 82 t84]) (.cond t82 (.seq (rg 7 [oM 86 t0,oP 87 (.call 105 [t86]),oM 85 t87,oP 88 (.extract t85 0),oP 89 (.extract t85 1),oM 6 t88,oM 7 t89]) (.seq (.seq (rg 91 [oM 90 t7,oP 91 (.un .not t90)]) (.cond t91 (.seq (rg 3 [oP 2 (.mv (.v (.string ⟨#[]⟩))),oP 3 (.mv vF)]) (.cn [2,3] .ret)) .skip)) (rg 4 [oM 92 t4,oM 93 t6,oP 94 (.call 106 [t92,t93]),oM 4 t94]))) (.seq (rg 95 [oM 96 t5,oP 97 (.bi .lss t96 (vC 32)),oM 95 t97]) (.cond t95 (.seq (rg 3 [oM 98 t0,oP 99 (.call 91 [t98]),oP 2 (.mv (.v (.string ⟨#[]⟩))),oM 3 t99]) (.cn [2,3] .ret)) (.seq (rg 100 [oM 101 t5,oP 102 (.bi .lss t101 (vC 128)),oM 100 t102]) (.cond t100 (.seq (rg 4 [oM 103 t4,oM 104 t5,oP 105 (.bslice 5 1 1 [.int .u8 0] [(0,t104)]),oP 106 (.append 5 1 1 [.int .u8 0] t103 t105),oM 4 t106]) (rg 0 (rF 107 t0 1++[oP 111 (.bi .add t110 (vI 1))]++rS 112 t107 1 t111))) (.seq (rg 9 [oM 39 t0,oP 40 (.call 107 [t39]),oM 38 t40,oP 41 (.extract t38 0),oP 42 (.extract t38 1),oM 8 t41,oM 9 t42]) (.seq (.seq (rg 44 [oM 43 t9,oP 44 (.un .not t43)]) (.cond t44 (.seq (rg 3 [oP 2 (.mv (.v (.string ⟨#[]⟩))),oP 3 (.mv vF)]) (.cn [2,3] .ret)) .skip)) (.seq (.reg 4 (some [0,1,2,3,4,5,6,7,8,9,10,11,12,13,14,15,16,17]) ([oM 45 t4]++rF 46 t0 0++rF 50 t0 1++rF 54 t0 1++[oM 58 t8,oP 59 (.bi .add t57 t58),oP 60 (.sub none t49 (some t53) (some t59)),oP 61 (.ext (.appStr 5) [t45,t60]),oM 4 t61])) (rg 0 (rF 62 t0 1++[oM 66 t8,oP 67 (.bi .add t65 t66)]++rS 68 t62 1 t67))))))))))))))))))
def zbw_q:IQ:=(.seq (rg 3 [oP 2 (.mv (.v (.string ⟨#[]⟩))),oP 3 (.mv vF)]) (.seq (rg 4 [oP 4 (.mv (.v (.slice none 0 0)))]) (.seq (rg 0 (rF 10 t0 1++[oP 14 (.bi .add t13 (vI 1))]++rS 15 t10 1 t14)) (.block 0 (.canon [(4,none,.u8,5)] [0,4] (.sub 0 zbw_b0))))))
def qBj (qGw:BA) (qGx qG0:Int) (qG5:BA) (qG1 qG4:Int) (qG2:List Eng.Node) (qGy:List Int) (qGz:qBc) (b:List Int):Option ((BA × Int × Int × BA × Int × Int × qBc × (List Int)) ⊕ (BA × Bool × BA × Int × Int × BA × Int × Int × qBc)) :=
 bif decide (qGx=(qGw.size:Int)) then (
  (zbu_s (⟨qGw,qGx,qG0,qG2,qGy,qGz,qG5,qG1,qG4⟩:json_reader)).bind fun r34 =>
  some (.inr ((⟨#[]⟩:BA),r34.2,r34.1.text,r34.1.at_,r34.1.state,r34.1.key,r34.1.code,r34.1.bad,r34.1.names)))
 else (
  gd (0≤qGx∧qGx<qGw.size) <|
  bif decide ((bAt qGw qGx)=(34:Int)) then (
   gd (qAc (qGx+(1:Int))) <|
   some (.inr ((qAp b),true,qGw,(qGx+(1:Int)),qG0,qG5,qG1,qG4,qGz)))
  else (
   bif decide ((bAt qGw qGx)=(92:Int)) then (
    (zbm_s (⟨qGw,qGx,qG0,qG2,qGy,qGz,qG5,qG1,qG4⟩:json_reader)).bind fun r35 =>
    bif (!r35.2.2) then (
     some (.inr ((⟨#[]⟩:BA),false,r35.1.text,r35.1.at_,r35.1.state,r35.1.key,r35.1.code,r35.1.bad,r35.1.names)))
    else (
     (zcx_s b r35.2.1).bind fun r36 =>
     some (.inl (r35.1.text,r35.1.at_,r35.1.state,r35.1.key,r35.1.code,r35.1.bad,r35.1.names,r36))))
   else (
    bif decide ((bAt qGw qGx)<(32:Int)) then (
     (zbu_s (⟨qGw,qGx,qG0,qG2,qGy,qGz,qG5,qG1,qG4⟩:json_reader)).bind fun r37 =>
     some (.inr ((⟨#[]⟩:BA),r37.2,r37.1.text,r37.1.at_,r37.1.state,r37.1.key,r37.1.code,r37.1.bad,r37.1.names)))
    else (
     bif decide ((bAt qGw qGx)<(128:Int)) then (
      gd (b.length+([(bAt qGw qGx)]:List Int).length≤9223372036854775807∧(b.length+([(bAt qGw qGx)]:List Int).length)*1≤140737488355328) <|
      gd (qAc (qGx+(1:Int))) <|
      some (.inl (qGw,(qGx+(1:Int)),qG0,qG5,qG1,qG4,qGz,(b++[(bAt qGw qGx)]))))
     else (
      (zbx_s (⟨qGw,qGx,qG0,qG2,qGy,qGz,qG5,qG1,qG4⟩:json_reader)).bind fun r38 =>
      bif (!r38.2.2) then (
       some (.inr ((⟨#[]⟩:BA),false,r38.1.text,r38.1.at_,r38.1.state,r38.1.key,r38.1.code,r38.1.bad,r38.1.names)))
      else (
       gd (qAc (r38.1.at_+r38.2.1)) <|
       gd (0≤r38.1.at_∧r38.1.at_≤(r38.1.at_+r38.2.1)∧(r38.1.at_+r38.2.1)≤r38.1.text.size) <|
       gd (b.length+(r38.1.text.extract (Int.toNat r38.1.at_) (Int.toNat (r38.1.at_+r38.2.1))).size≤140737488355328) <|
       gd (qAc (r38.1.at_+r38.2.1)) <|
       some (.inl (r38.1.text,(r38.1.at_+r38.2.1),r38.1.state,r38.1.key,r38.1.code,r38.1.bad,r38.1.names,(b++(qA4 (r38.1.text.extract (Int.toNat r38.1.at_) (Int.toNat (r38.1.at_+r38.2.1)))))))))))))
def zbw_p0 (qGw:BA) (qGx qG0:Int) (qG5:BA) (qG1 qG4:Int) (qG2:List Eng.Node) (qGy:List Int) (qGz:qBc) (b:List Int):Option (BA × Bool × BA × Int × Int × BA × Int × Int × qBc) :=
 qAw (fun x:(BA × Int × Int × BA × Int × Int × qBc × (List Int))=>qBj x.1 x.2.1 x.2.2.1 x.2.2.2.1 x.2.2.2.2.1 x.2.2.2.2.2.1 qG2 qGy x.2.2.2.2.2.2.1 x.2.2.2.2.2.2.2) (qGw,qGx,qG0,qG5,qG1,qG4,qGz,b)
def zbw_s (r_:json_reader):Option (json_reader × BA × Bool) :=
 gd (qAc (r_.at_+(1:Int))) <|
 (zbw_p0 r_.text (r_.at_+(1:Int)) r_.state r_.key r_.code r_.bad r_.out r_.open_ r_.names []).bind fun o39 =>
 some ((⟨o39.2.2.1,o39.2.2.2.1,o39.2.2.2.2.1,r_.out,r_.open_,o39.2.2.2.2.2.2.2.2,o39.2.2.2.2.2.1,o39.2.2.2.2.2.2.1,o39.2.2.2.2.2.2.2.1⟩:json_reader),o39.1,o39.2.1)
def zbw_G:Nat→Option CQ:=tblQ [(91,zbu_w),(105,zbm_w),(106,zcx_w),(107,zbx_w)]
def zbw_d0:=(dQS (qAa (dSO 0 (dH 0 0)) (qAa (dSO 4 (dO 4)) dNil)) (qAa qC5 (qAa (qBn .node) (qAa (qBn .i64) (qAa (dBag qA2 138) (qAa (dRow .u8 5) dNil))))))
def zbw_l0:SubQ:=mkL zbw_d0 (fun x=>zbw_p0 x.2.1.1 x.2.1.2.1 x.2.1.2.2.1 x.2.1.2.2.2.2.2.2.1 x.2.1.2.2.2.2.2.2.2.1 x.2.1.2.2.2.2.2.2.2.2.1 x.2.2.1 x.2.2.2.1 x.2.2.2.2.1 x.2.2.2.2.2.1) fun x r R kn kx kr=>kr ⟨[sL 2 (.vS r.1),sL 3 (.vB r.2.1)],[],[.cells 119 [.vS r.2.2.1,.vI r.2.2.2.1,.vI r.2.2.2.2.1,.own 1,.own 2,.bsl 3,.vS r.2.2.2.2.2.1,.vI r.2.2.2.2.2.2.1,.vI r.2.2.2.2.2.2.2.1],.view .node x.2.2.1,.view .i64 x.2.2.2.1,.bag qA2 138 r.2.2.2.2.2.2.2.2]⟩
def zbw_L:Nat→SubQ:=tblL [(0,zbw_l0)]
theorem zbw_sub0:qBe zbw_L zbw_G 4 10 114 0 zbw_b0:=qAo (show zbw_L 0=zbw_l0 from by kernel_rfl) fun x R kn kx kr=>qAl (step:=fun y=>qBj y.1 y.2.1 y.2.2.1 y.2.2.2.1 y.2.2.2.2.1 y.2.2.2.2.2.1 x.2.2.1 x.2.2.2.1 y.2.2.2.2.2.2.1 y.2.2.2.2.2.2.2) (enc:=fun (y:BA × Int × Int × BA × Int × Int × qBc × (List Int))=>zbw_d0.e (x.1,((y.1,y.2.1,y.2.2.1,x.2.1.2.2.2.1,x.2.1.2.2.2.2.1,x.2.1.2.2.2.2.2.1,y.2.2.2.1,y.2.2.2.2.1,y.2.2.2.2.2.1,x.2.1.2.2.2.2.2.2.2.2.2),x.2.2.1,x.2.2.2.1,y.2.2.2.2.2.2.1,y.2.2.2.2.2.2.2,x.2.2.2.2.2.2))) (fun y=>by kernel_rfl) (fun y ki=>by simp only [qBj,-eq_self,sZ]; kernel_rfl) (x.2.1.1,x.2.1.2.1,x.2.1.2.2.1,x.2.1.2.2.2.2.2.2.1,x.2.1.2.2.2.2.2.2.2.1,x.2.1.2.2.2.2.2.2.2.2.1,x.2.2.2.2.1,x.2.2.2.2.2.1)
def zbw_c:CS:=mkC (qAa (dVC (dCO (dH 0 0))) dNil) (qAa qC5 (qAa (qBn .node) zDJP2)) (fun x y=>zbw_s (zYJP0 y)) (fun x y r=>.tup [.o (.vS r.2.1),.o (.vB r.2.2)]) fun x y r=>[.cells 119 [.vS r.1.text,.vI r.1.at_,.vI r.1.state,.own 1,.own 2,.bsl 3,.vS r.1.key,.vI r.1.code,.vI r.1.bad],.view .node y.2.1,.view .i64 y.2.2.1,.bag qA2 138 r.1.names]
theorem zbw_val:qAh Tryd.prog 99 zbw_c:=vl1 zbw_q [.tmp 2,.tmp 3] 114 10 4 (show qA3 zbw_L zbw_G 4 10 114 [(0,zbw_b0)] from ⟨zbw_sub0,tV⟩) (qAr ⟨zbu_ok,zbm_ok,zcx_ok,zbx_ok,tV⟩) fun x y=>by
 simp only [zbw_s,-eq_self,sZ];kernel_rfl
def zbw_w:CQ:=qBk [(0,some 3,some (.node,39)),(0,some 4,some (.i64,3)),(0,some 5,some ((.bag qA2),138))] (qBq [true,false,false,true] zbw_c)
theorem zbw_ok:qAe Tryd.prog 99 zbw_w:=qAn zbw_val
def zbk_b0:IQ:=(.loop [0,4] (.seq (.seq (rg 22 [oM 17 t4,oP 18 (.bi .geq t17 (vC 48)),oM 19 t18,oF 20 (.mv t4) 19,oF 21 (.bi .leq t20 (vC 57)) 19,oP 22 (.pick t19 t21 vF)]) (.cond t22 .skip (.cn [] (.exit 0)))) (.seq (.block 1 (rg 0 (rF 25 t0 1++[oP 29 (.bi .add t28 (vI 1))]++rS 30 t25 1 t29))) (rg 4 [oM 23 t0,oP 24 (.call 88 [t23]),oM 4 t24]))))
def zbk_q:IQ:=(.seq (rg 2 [oP 2 (.mv vF)]) (.seq (.seq (rg 3 [oM 5 t0,oP 6 (.call 88 [t5]),oM 3 t6]) (.seq (rg 12 [oM 7 t3,oP 8 (.bi .lss t7 (vC 48)),oM 9 t8,oE 10 (.mv t3) 9,oE 11 (.bi .gtr t10 (vC 57)) 9,oP 12 (.pick t9 vT t11)]) (.cond t12 (.seq (rg 2 [oM 13 t0,oP 14 (.call 91 [t13]),oM 2 t14]) (.cn [2] .ret)) .skip))) (.seq (.seq (rg 4 [oM 15 t0,oP 16 (.call 88 [t15]),oM 4 t16]) (.block 0 (.cn [0,4] (.sub 0 zbk_b0)))) (.seq (rg 2 [oP 2 (.mv vT)]) (.cn [2] .ret)))))
def qFe (c:Int) (qGw:BA) (qGx qG0:Int) (qG5:BA) (qG1 qG4:Int) (qG2:List Eng.Node) (qGy:List Int) (qGz:qBc):Option ((Int × Int) ⊕ Int) :=
 bif ((decide ((48:Int)≤c)) && (decide (c≤(57:Int)))) then (
  gd (qAc (qGx+(1:Int))) <|
  (zbs_s (⟨qGw,(qGx+(1:Int)),qG0,qG2,qGy,qGz,qG5,qG1,qG4⟩:json_reader)).bind fun r14 =>
  some (.inl (r14,(qGx+(1:Int)))))
 else (
  some (.inr qGx))
def zbk_p0 (c:Int) (qGw:BA) (qGx qG0:Int) (qG5:BA) (qG1 qG4:Int) (qG2:List Eng.Node) (qGy:List Int) (qGz:qBc):Option Int :=
 qAw (fun x:(Int × Int)=>qFe x.1 qGw x.2 qG0 qG5 qG1 qG4 qG2 qGy qGz) (c,qGx)
def zbk_s (r_:json_reader):Option (json_reader × Bool) :=
 (zbs_s r_).bind fun r11 =>
 bif ((decide (r11<(48:Int))) || (decide ((57:Int)<r11))) then (
  (zbu_s r_).bind fun r12 =>
  some ({r12.1 with out:=r_.out,open_:=r_.open_:json_reader},r12.2))
 else (
  (zbs_s r_).bind fun r13 =>
  (zbk_p0 r13 r_.text r_.at_ r_.state r_.key r_.code r_.bad r_.out r_.open_ r_.names).bind fun o15 =>
  some ({r_ with at_:=o15:json_reader},true))
def zbk_G:Nat→Option CQ:=tblQ [(88,zbs_w),(91,zbu_w)]
def zbk_d0:=(dQS (qAa (dSO 0 (dH 0 0)) (qAa (dSO 4 (dI .u8)) dNil)) zDJP5)
def zbk_l0:SubQ:=mkL zbk_d0 (fun x=>zbk_p0 x.1.2.1 x.2.1.1 x.2.1.2.1 x.2.1.2.2.1 x.2.1.2.2.2.2.2.2.1 x.2.1.2.2.2.2.2.2.2.1 x.2.1.2.2.2.2.2.2.2.2.1 x.2.2.1 x.2.2.2.1 x.2.2.2.2.1) fun x r R kn kx kr=>kx 0 ⟨[],[],[.cells 119 [.vS x.2.1.1,.vI r,.vI x.2.1.2.2.1,.own 1,.own 2,.bsl 3,.vS x.2.1.2.2.2.2.2.2.1,.vI x.2.1.2.2.2.2.2.2.2.1,.vI x.2.1.2.2.2.2.2.2.2.2.1],.view .node x.2.2.1,.view .i64 x.2.2.2.1,.bag qA2 138 x.2.2.2.2.1]⟩
def zbk_L:Nat→SubQ:=tblL [(0,zbk_l0)]
theorem zbk_sub0:qBe zbk_L zbk_G 4 5 32 0 zbk_b0:=qAo (show zbk_L 0=zbk_l0 from by kernel_rfl) fun x R kn kx kr=>qAl (step:=fun y=>qFe y.1 x.2.1.1 y.2 x.2.1.2.2.1 x.2.1.2.2.2.2.2.2.1 x.2.1.2.2.2.2.2.2.2.1 x.2.1.2.2.2.2.2.2.2.2.1 x.2.2.1 x.2.2.2.1 x.2.2.2.2.1) (enc:=fun (y:Int × Int)=>zbk_d0.e ((x.1.1,y.1,x.1.2.2),((x.2.1.1,y.2,x.2.1.2.2),x.2.2))) (fun y=>by kernel_rfl) (fun y ki=>by simp only [qFe,-eq_self,sZ]; kernel_rfl) (x.1.2.1,x.2.1.2.1)
def zbk_c:CS:=mkC (qAa (dVC (dCO (dH 0 0))) dNil) (qAa qC5 (qAa (qBn .node) zDJP2)) (fun x y=>zbk_s (zYJP0 y)) (fun x y r=>.c (.o (.vB r.2))) fun x y r=>[.cells 119 [.vS r.1.text,.vI r.1.at_,.vI r.1.state,.own 1,.own 2,.bsl 3,.vS r.1.key,.vI r.1.code,.vI r.1.bad],.view .node y.2.1,.view .i64 y.2.2.1,.bag qA2 138 r.1.names]
theorem zbk_val:qAh Tryd.prog 108 zbk_c:=vl1 zbk_q [.tmp 2] 32 5 4 (show qA3 zbk_L zbk_G 4 5 32 [(0,zbk_b0)] from ⟨zbk_sub0,tV⟩) (qAr ⟨zbs_ok,zbu_ok,tV⟩) fun x y=>by
 simp only [zbk_s,-eq_self,sZ];kernel_rfl
def zbk_w:CQ:=qBk [(0,some 3,some (.node,39)),(0,some 4,some (.i64,3)),(0,some 5,some ((.bag qA2),138))] (qBq [true,false,false,true] zbk_c)
theorem zbk_ok:qAe Tryd.prog 108 zbk_w:=qAn zbk_val
def zbt_b3:IQ:=(.seq (.reg 0 (some [0,1,2,3,4,5,6,7,8,9,10,11,12]) (rF 80 t0 0++[oM 84 t3]++rF 85 t0 1++[oP 89 (.sub none t83 (some t84) (some t88)),oP 90 (.build [.int .i64 0,.string ⟨#[]⟩,.string ⟨#[]⟩,.bool false,.int .i64 0,.int .i64 0] [(0,1,(vI 4)),(2,1,t89)]),oP 6 (.alloc 39 [.int .i64 0,.string ⟨#[]⟩,.string ⟨#[]⟩,.bool false,.int .i64 0,.int .i64 0]),oN (.store 6 t6 t90)])) (.seq (rg 0 [oP 92 (.faddr 2 t6),oP 93 (.load none t92),oP 94 (.call 109 [t93]),oM 91 t94,oP 95 (.extract t91 0),oP 96 (.extract t91 1),oP 97 (.faddr 4 t6),oN (.store 1 t97 t95),oP 98 (.faddr 3 t6),oN (.store 1 t98 t96)]) (.seq (rg 101 [oM 99 t0,oP 100 (.load (some 6) t6),oP 101 (.call 100 [t99,t100])]) (.seq (rg 103 [oM 102 t0,oP 103 (.call 97 [t102])]) (.seq (rg 2 [oP 2 (.mv vT)]) (.canon [(1000000,some 3,.u8,0),(3000001,none,.u8,0)] [2] .ret))))))
def zbt_b2:IQ:=(.seq (.seq (rg 4 [oM 47 t0,oP 48 (.call 88 [t47]),oM 4 t48]) (.seq (rg 54 [oM 49 t4,oP 50 (.bi .eql t49 (vC 101)),oM 51 t50,oE 52 (.mv t4) 51,oE 53 (.bi .eql t52 (vC 69)) 51,oP 54 (.pick t51 vT t53)]) (.cond t54 (.seq (rg 0 (rF 55 t0 1++[oP 59 (.bi .add t58 (vI 1))]++rS 60 t55 1 t59)) (.seq (.seq (rg 5 [oM 62 t0,oP 63 (.call 88 [t62]),oM 5 t63]) (.seq (rg 69 [oM 64 t5,oP 65 (.bi .eql t64 (vC 43)),oM 66 t65,oE 67 (.mv t5) 66,oE 68 (.bi .eql t67 (vC 45)) 66,oP 69 (.pick t66 vT t68)]) (.cond t69 (rg 0 (rF 70 t0 1++[oP 74 (.bi .add t73 (vI 1))]++rS 75 t70 1 t74)) .skip))) (.seq (rg 79 [oM 77 t0,oP 78 (.call 108 [t77]),oP 79 (.un .not t78)]) (.cond t79 (.seq (rg 2 [oP 2 (.mv vF)]) (.canon [(1000000,some 3,.u8,0),(3000001,none,.u8,0)] [2] .ret)) .skip)))) .skip))) (.cn [0,3] (.sub 3 zbt_b3)))
def zbt_b1:IQ:=(.seq (.seq (rg 36 [oM 34 t0,oP 35 (.call 88 [t34]),oP 36 (.bi .eql t35 (vC 46))]) (.cond t36 (.seq (rg 0 (rF 37 t0 1++[oP 41 (.bi .add t40 (vI 1))]++rS 42 t37 1 t41)) (.seq (rg 46 [oM 44 t0,oP 45 (.call 108 [t44]),oP 46 (.un .not t45)]) (.cond t46 (.seq (rg 2 [oP 2 (.mv vF)]) (.canon [(1000000,some 3,.u8,0),(3000001,none,.u8,0)] [2] .ret)) .skip))) .skip)) (.cn [0,3] (.sub 2 zbt_b2)))
def zbt_b0:IQ:=(.seq (.seq (rg 23 [oM 21 t0,oP 22 (.call 88 [t21]),oP 23 (.bi .eql t22 (vC 48))]) (.cond t23 (rg 0 (rF 24 t0 1++[oP 28 (.bi .add t27 (vI 1))]++rS 29 t24 1 t28)) (.seq (rg 33 [oM 31 t0,oP 32 (.call 108 [t31]),oP 33 (.un .not t32)]) (.cond t33 (.seq (rg 2 [oP 2 (.mv vF)]) (.canon [(1000000,some 3,.u8,0),(3000001,none,.u8,0)] [2] .ret)) .skip)))) (.cn [0,3] (.sub 1 zbt_b1)))
def zbt_q:IQ:=(.seq (rg 2 [oP 2 (.mv vF)]) (.seq (rg 3 (rF 7 t0 1++[oM 3 t10])) (.seq (.seq (rg 13 [oM 11 t0,oP 12 (.call 88 [t11]),oP 13 (.bi .eql t12 (vC 45))]) (.cond t13 (rg 0 (rF 14 t0 1++[oP 18 (.bi .add t17 (vI 1))]++rS 19 t14 1 t18)) .skip)) (.cn [0,3] (.sub 0 zbt_b0)))))
def zbt_p3 (from_:Int) (qGw:BA) (qGx qG0:Int) (qG5:BA) (qG1 qG4:Int) (qG2:List Eng.Node) (qGy:List Int) (qGz:qBc):Option (Bool × BA × Int × Int × BA × Int × Int × qBc × (List Eng.Node)) :=
 gd (0≤from_∧from_≤qGx∧qGx≤qGw.size) <|
 (zai_s (qGw.extract (Int.toNat from_) (Int.toNat qGx))).bind fun r73 =>
 (zbo_s (⟨qGw,qGx,qG0,qG2,qGy,qGz,qG5,qG1,qG4⟩:json_reader) (⟨(4:Int),(⟨#[]⟩:BA),(qGw.extract (Int.toNat from_) (Int.toNat qGx)),r73.2,r73.1,(0:Int)⟩:Eng.Node)).bind fun r74 =>
 (zbi_s {r74 with open_:=qGy:json_reader}).bind fun r75 =>
 some (true,r75.text,r75.at_,r75.state,r75.key,r75.code,r75.bad,r75.names,r74.out)
def zbt_p2 (from_:Int) (qGw:BA) (qGx qG0:Int) (qG5:BA) (qG1 qG4:Int) (qG2:List Eng.Node) (qGy:List Int) (qGz:qBc):Option (Bool × BA × Int × Int × BA × Int × Int × qBc × (List Eng.Node)) :=
 (zbs_s (⟨qGw,qGx,qG0,qG2,qGy,qGz,qG5,qG1,qG4⟩:json_reader)).bind fun r70 =>
 bif ((decide (r70=(101:Int))) || (decide (r70=(69:Int)))) then (
  gd (qAc (qGx+(1:Int))) <|
  (zbs_s (⟨qGw,(qGx+(1:Int)),qG0,qG2,qGy,qGz,qG5,qG1,qG4⟩:json_reader)).bind fun r71 =>
  bif ((decide (r71=(43:Int))) || (decide (r71=(45:Int)))) then (
   gd (qAc ((qGx+(1:Int))+(1:Int))) <|
   (zbk_s (⟨qGw,((qGx+(1:Int))+(1:Int)),qG0,qG2,qGy,qGz,qG5,qG1,qG4⟩:json_reader)).bind fun r72 =>
   bif (!r72.2) then (
    some (false,r72.1.text,r72.1.at_,r72.1.state,r72.1.key,r72.1.code,r72.1.bad,r72.1.names,qG2))
   else (
    (zbt_p3 from_ r72.1.text r72.1.at_ r72.1.state r72.1.key r72.1.code r72.1.bad qG2 qGy r72.1.names).bind fun o76 =>
    some (o76.1,o76.2.1,o76.2.2.1,o76.2.2.2.1,o76.2.2.2.2.1,o76.2.2.2.2.2.1,o76.2.2.2.2.2.2.1,o76.2.2.2.2.2.2.2.1,o76.2.2.2.2.2.2.2.2)))
  else (
   (zbk_s (⟨qGw,(qGx+(1:Int)),qG0,qG2,qGy,qGz,qG5,qG1,qG4⟩:json_reader)).bind fun r77 =>
   bif (!r77.2) then (
    some (false,r77.1.text,r77.1.at_,r77.1.state,r77.1.key,r77.1.code,r77.1.bad,r77.1.names,qG2))
   else (
    (zbt_p3 from_ r77.1.text r77.1.at_ r77.1.state r77.1.key r77.1.code r77.1.bad qG2 qGy r77.1.names).bind fun o78 =>
    some (o78.1,o78.2.1,o78.2.2.1,o78.2.2.2.1,o78.2.2.2.2.1,o78.2.2.2.2.2.1,o78.2.2.2.2.2.2.1,o78.2.2.2.2.2.2.2.1,o78.2.2.2.2.2.2.2.2))))
 else (
  (zbt_p3 from_ qGw qGx qG0 qG5 qG1 qG4 qG2 qGy qGz).bind fun o79 =>
  some (o79.1,o79.2.1,o79.2.2.1,o79.2.2.2.1,o79.2.2.2.2.1,o79.2.2.2.2.2.1,o79.2.2.2.2.2.2.1,o79.2.2.2.2.2.2.2.1,o79.2.2.2.2.2.2.2.2))
def zbt_p1 (from_:Int) (qGw:BA) (qGx qG0:Int) (qG5:BA) (qG1 qG4:Int) (qG2:List Eng.Node) (qGy:List Int) (qGz:qBc):Option (Bool × BA × Int × Int × BA × Int × Int × qBc × (List Eng.Node)) :=
 (zbs_s (⟨qGw,qGx,qG0,qG2,qGy,qGz,qG5,qG1,qG4⟩:json_reader)).bind fun r68 =>
 bif decide (r68=(46:Int)) then (
  gd (qAc (qGx+(1:Int))) <|
  (zbk_s (⟨qGw,(qGx+(1:Int)),qG0,qG2,qGy,qGz,qG5,qG1,qG4⟩:json_reader)).bind fun r69 =>
  bif (!r69.2) then (
   some (false,r69.1.text,r69.1.at_,r69.1.state,r69.1.key,r69.1.code,r69.1.bad,r69.1.names,qG2))
  else (
   (zbt_p2 from_ r69.1.text r69.1.at_ r69.1.state r69.1.key r69.1.code r69.1.bad qG2 qGy r69.1.names).bind fun o80 =>
   some (o80.1,o80.2.1,o80.2.2.1,o80.2.2.2.1,o80.2.2.2.2.1,o80.2.2.2.2.2.1,o80.2.2.2.2.2.2.1,o80.2.2.2.2.2.2.2.1,o80.2.2.2.2.2.2.2.2)))
 else (
  (zbt_p2 from_ qGw qGx qG0 qG5 qG1 qG4 qG2 qGy qGz).bind fun o81 =>
  some (o81.1,o81.2.1,o81.2.2.1,o81.2.2.2.1,o81.2.2.2.2.1,o81.2.2.2.2.2.1,o81.2.2.2.2.2.2.1,o81.2.2.2.2.2.2.2.1,o81.2.2.2.2.2.2.2.2))
def zbt_p0 (from_:Int) (qGw:BA) (qGx qG0:Int) (qG5:BA) (qG1 qG4:Int) (qG2:List Eng.Node) (qGy:List Int) (qGz:qBc):Option (Bool × BA × Int × Int × BA × Int × Int × qBc × (List Eng.Node)) :=
 (zbs_s (⟨qGw,qGx,qG0,qG2,qGy,qGz,qG5,qG1,qG4⟩:json_reader)).bind fun r67 =>
 bif decide (r67=(48:Int)) then (
  gd (qAc (qGx+(1:Int))) <|
  (zbt_p1 from_ qGw (qGx+(1:Int)) qG0 qG5 qG1 qG4 qG2 qGy qGz).bind fun o82 =>
  some (o82.1,o82.2.1,o82.2.2.1,o82.2.2.2.1,o82.2.2.2.2.1,o82.2.2.2.2.2.1,o82.2.2.2.2.2.2.1,o82.2.2.2.2.2.2.2.1,o82.2.2.2.2.2.2.2.2))
 else (
  (zbk_s (⟨qGw,qGx,qG0,qG2,qGy,qGz,qG5,qG1,qG4⟩:json_reader)).bind fun r83 =>
  bif (!r83.2) then (
   some (false,r83.1.text,r83.1.at_,r83.1.state,r83.1.key,r83.1.code,r83.1.bad,r83.1.names,qG2))
  else (
   (zbt_p1 from_ r83.1.text r83.1.at_ r83.1.state r83.1.key r83.1.code r83.1.bad qG2 qGy r83.1.names).bind fun o84 =>
   some (o84.1,o84.2.1,o84.2.2.1,o84.2.2.2.1,o84.2.2.2.2.1,o84.2.2.2.2.2.1,o84.2.2.2.2.2.2.1,o84.2.2.2.2.2.2.2.1,o84.2.2.2.2.2.2.2.2)))
def zbt_s (r_:json_reader):Option (json_reader × Bool) :=
 (zbs_s r_).bind fun r66 =>
 bif decide (r66=(45:Int)) then (
  gd (qAc (r_.at_+(1:Int))) <|
  (zbt_p0 r_.at_ r_.text (r_.at_+(1:Int)) r_.state r_.key r_.code r_.bad r_.out r_.open_ r_.names).bind fun o85 =>
  some ((⟨o85.2.1,o85.2.2.1,o85.2.2.2.1,o85.2.2.2.2.2.2.2.2,r_.open_,o85.2.2.2.2.2.2.2.1,o85.2.2.2.2.1,o85.2.2.2.2.2.1,o85.2.2.2.2.2.2.1⟩:json_reader),o85.1))
 else (
  (zbt_p0 r_.at_ r_.text r_.at_ r_.state r_.key r_.code r_.bad r_.out r_.open_ r_.names).bind fun o86 =>
  some ((⟨o86.2.1,o86.2.2.1,o86.2.2.2.1,o86.2.2.2.2.2.2.2.2,r_.open_,o86.2.2.2.2.2.2.2.1,o86.2.2.2.2.1,o86.2.2.2.2.2.1,o86.2.2.2.2.2.2.1⟩:json_reader),o86.1))
def zbt_G:Nat→Option CQ:=tblQ [(88,zbs_w),(108,zbk_w),(109,zai_w),(100,zbo_w),(97,zbi_w)]
def zDJP4:=(qAa qC5 (qAa (dRow .node 39) zDJP2))
def zDJP6:=(qAa (dSO 0 (dH 0 0)) (qAa (dSO 3 dZ) dNil))
def zbt_d3:=(dQS zDJP6 zDJP4)
def zbt_l3:SubQ:=mkL zbt_d3 (fun x=>zbt_p3 x.1.2.1 x.2.1.1 x.2.1.2.1 x.2.1.2.2.1 x.2.1.2.2.2.2.2.2.1 x.2.1.2.2.2.2.2.2.2.1 x.2.1.2.2.2.2.2.2.2.2.1 x.2.2.1 x.2.2.2.1 x.2.2.2.2.1) fun x r R kn kx kr=>kr ⟨[sL 2 (.vB r.1)],[],[.cells 119 [.vS r.2.1,.vI r.2.2.1,.vI r.2.2.2.1,.own 4,.own 2,.bsl 3,.vS r.2.2.2.2.1,.vI r.2.2.2.2.2.1,.vI r.2.2.2.2.2.2.1],.dead,.view .i64 x.2.2.2.1,.bag qA2 138 r.2.2.2.2.2.2.2.1,.row .node 39 r.2.2.2.2.2.2.2.2]⟩
def zbt_d2:=(dQS zDJP6 zDJP4)
def zbt_l2:SubQ:=mkL zbt_d2 (fun x=>zbt_p2 x.1.2.1 x.2.1.1 x.2.1.2.1 x.2.1.2.2.1 x.2.1.2.2.2.2.2.2.1 x.2.1.2.2.2.2.2.2.2.1 x.2.1.2.2.2.2.2.2.2.2.1 x.2.2.1 x.2.2.2.1 x.2.2.2.2.1) fun x r R kn kx kr=>kr ⟨[sL 2 (.vB r.1)],[],[.cells 119 [.vS r.2.1,.vI r.2.2.1,.vI r.2.2.2.1,.own 4,.own 2,.bsl 3,.vS r.2.2.2.2.1,.vI r.2.2.2.2.2.1,.vI r.2.2.2.2.2.2.1],.dead,.view .i64 x.2.2.2.1,.bag qA2 138 r.2.2.2.2.2.2.2.1,.row .node 39 r.2.2.2.2.2.2.2.2]⟩
def zbt_d1:=(dQS zDJP6 zDJP4)
def zbt_l1:SubQ:=mkL zbt_d1 (fun x=>zbt_p1 x.1.2.1 x.2.1.1 x.2.1.2.1 x.2.1.2.2.1 x.2.1.2.2.2.2.2.2.1 x.2.1.2.2.2.2.2.2.2.1 x.2.1.2.2.2.2.2.2.2.2.1 x.2.2.1 x.2.2.2.1 x.2.2.2.2.1) fun x r R kn kx kr=>kr ⟨[sL 2 (.vB r.1)],[],[.cells 119 [.vS r.2.1,.vI r.2.2.1,.vI r.2.2.2.1,.own 4,.own 2,.bsl 3,.vS r.2.2.2.2.1,.vI r.2.2.2.2.2.1,.vI r.2.2.2.2.2.2.1],.dead,.view .i64 x.2.2.2.1,.bag qA2 138 r.2.2.2.2.2.2.2.1,.row .node 39 r.2.2.2.2.2.2.2.2]⟩
def zbt_d0:=(dQS zDJP6 zDJP4)
def zbt_l0:SubQ:=mkL zbt_d0 (fun x=>zbt_p0 x.1.2.1 x.2.1.1 x.2.1.2.1 x.2.1.2.2.1 x.2.1.2.2.2.2.2.2.1 x.2.1.2.2.2.2.2.2.2.1 x.2.1.2.2.2.2.2.2.2.2.1 x.2.2.1 x.2.2.2.1 x.2.2.2.2.1) fun x r R kn kx kr=>kr ⟨[sL 2 (.vB r.1)],[],[.cells 119 [.vS r.2.1,.vI r.2.2.1,.vI r.2.2.2.1,.own 4,.own 2,.bsl 3,.vS r.2.2.2.2.1,.vI r.2.2.2.2.2.1,.vI r.2.2.2.2.2.2.1],.dead,.view .i64 x.2.2.2.1,.bag qA2 138 r.2.2.2.2.2.2.2.1,.row .node 39 r.2.2.2.2.2.2.2.2]⟩
def zbt_L:Nat→SubQ:=tblL [(3,zbt_l3),(2,zbt_l2),(1,zbt_l1),(0,zbt_l0)]
theorem zbt_sub3:qBe zbt_L zbt_G 4 7 104 3 zbt_b3:=qAo (show zbt_L 3=zbt_l3 from by kernel_rfl) fun x R kn kx kr=>by
 simp only [zbt_p3,-eq_self,sZ];kernel_rfl
theorem zbt_sub2:qBe zbt_L zbt_G 4 7 104 2 zbt_b2:=qAo (show zbt_L 2=zbt_l2 from by kernel_rfl) fun x R kn kx kr=>by
 simp only [zbt_p2,-eq_self,sZ];kernel_rfl
theorem zbt_sub1:qBe zbt_L zbt_G 4 7 104 1 zbt_b1:=qAo (show zbt_L 1=zbt_l1 from by kernel_rfl) fun x R kn kx kr=>by
 simp only [zbt_p1,-eq_self,sZ];kernel_rfl
theorem zbt_sub0:qBe zbt_L zbt_G 4 7 104 0 zbt_b0:=qAo (show zbt_L 0=zbt_l0 from by kernel_rfl) fun x R kn kx kr=>by
 simp only [zbt_p0,-eq_self,sZ];kernel_rfl
def zbt_c:CS:=mkC (qAa (dVC (dCO (dH 0 0))) dNil) (qAa qC5 (qAa (dRow .node 39) zDJP2)) (fun x y=>zbt_s (zYJP2 y)) (fun x y r=>.c (.o (.vB r.2))) fun x y r=>[.cells 119 [.vS r.1.text,.vI r.1.at_,.vI r.1.state,.own 4,.own 2,.bsl 3,.vS r.1.key,.vI r.1.code,.vI r.1.bad],.dead,.view .i64 y.2.2.1,.bag qA2 138 r.1.names,.row .node 39 r.1.out]
theorem zbt_val:qAh Tryd.prog 101 zbt_c:=vl1 zbt_q [.tmp 2] 104 7 4 (show qA3 zbt_L zbt_G 4 7 104 [(0,zbt_b0),(1,zbt_b1),(2,zbt_b2),(3,zbt_b3)] from ⟨zbt_sub0,zbt_sub1,zbt_sub2,zbt_sub3,tV⟩) (qAr ⟨zbs_ok,zbk_ok,zai_ok,zbo_ok,zbi_ok,tV⟩) fun x y=>by
 simp only [zbt_s,-eq_self,sZ];kernel_rfl
def zbt_w:CQ:=qBk [(0,some 3,some (.node,39)),(0,some 4,some (.i64,3)),(0,some 5,some ((.bag qA2),138))] (qBq [true,true,false,true] zbt_c)
theorem zbt_ok:qAe Tryd.prog 101 zbt_w:=qAn zbt_val
def zbp_b0:IQ:=(.loop [0,1,2,9,10] (.seq (rg 11 [oP 11 (.bi .lss t10 t9)]) (.seq (.cond t11 .skip (.cn [0,2] (.exit 0))) (.seq (.block 1 (.seq (rg 7 [oM 12 t10,oM 7 t12]) (.seq (.seq (.reg 18 (some [0,2,3,4,1,5]) [oM 13 t0,oM 15 t1,oM 16 t7,oP 17 (.index t15 t16),oP 14 (.call 88 [t13]),oP 18 (.bi .neq t14 t17)]) (.cond t18 (.seq (rg 6 [oM 19 t0,oP 20 (.call 91 [t19]),oM 6 t20]) (.canon [(1000000,some 3,.u8,0),(3000001,none,.u8,0)] [6] .ret)) .skip)) (rg 0 (rF 21 t0 1++[oP 25 (.bi .add t24 (vI 1))]++rS 26 t21 1 t25))))) (rg 10 [oP 28 (.bi .add t10 (vI 1)),oM 10 t28])))))
def zbp_q:IQ:=(.seq (rg 6 [oP 6 (.mv vF)]) (.seq (.seq (rg 10 [oM 8 t1,oP 9 (.lenS t8),oP 10 (.mv (vI 0))]) (.block 0 (.cn [0,1,2,9,10] (.sub 0 zbp_b0)))) (.seq (rg 32 [oM 29 t0,oM 30 t2,oP 31 (.build [.int .i64 0,.string ⟨#[]⟩,.string ⟨#[]⟩,.bool false,.int .i64 0,.int .i64 0] [(0,1,t30)]),oP 32 (.call 100 [t29,t31])]) (.seq (rg 34 [oM 33 t0,oP 34 (.call 97 [t33])]) (.seq (rg 6 [oP 6 (.mv vT)]) (.canon [(1000000,some 3,.u8,0),(3000001,none,.u8,0)] [6] .ret))))))
def zGJP4 (qGw:BA) (qGx:Int) (qG0:Int) (qG5:BA) (qG1:Int) (qG4:Int) (qG2:List Eng.Node) (qGy:List Int) (qGz:qBc):List SB:=[.cells 119 [.vS qGw,.vI qGx,.vI qG0,.own 1,.own 2,.bsl 3,.vS qG5,.vI qG1,.vI qG4],.row .node 39 qG2,.view .i64 qGy,.bag qA2 138 qGz]
def qCb (word:BA) (x9_ x10_:Int) (qGw:BA) (qGx qG0:Int) (qG5:BA) (qG1 qG4:Int) (qG2:List Eng.Node) (qGy:List Int) (qGz:qBc):Option ((Int × Int) ⊕ ((Bool × BA × Int × Int × BA × Int × Int × qBc) ⊕ Int)) :=
 bif decide (x10_<x9_) then (
  gd (0≤x10_∧x10_<word.size) <|
  (zbs_s (⟨qGw,qGx,qG0,qG2,qGy,qGz,qG5,qG1,qG4⟩:json_reader)).bind fun r24 =>
  gd (zGJP4 qGw qGx qG0 qG5 qG1 qG4 qG2 qGy qGz=zGJP4 qGw qGx qG0 qG5 qG1 qG4 qG2 qGy qGz) <|
  bif (!decide (r24=(bAt word x10_))) then (
   (zbu_s (⟨qGw,qGx,qG0,qG2,qGy,qGz,qG5,qG1,qG4⟩:json_reader)).bind fun r25 =>
   some (.inr (.inl (r25.2,r25.1.text,r25.1.at_,r25.1.state,r25.1.key,r25.1.code,r25.1.bad,r25.1.names))))
  else (
   gd (qAc (qGx+(1:Int))) <|
   gd (qAc (x10_+(1:Int))) <|
   some (.inl ((x10_+(1:Int)),(qGx+(1:Int))))))
 else (
  some (.inr (.inr qGx)))
def zbp_p0 (word:BA) (x9_ x10_:Int) (qGw:BA) (qGx qG0:Int) (qG5:BA) (qG1 qG4:Int) (qG2:List Eng.Node) (qGy:List Int) (qGz:qBc):Option ((Bool × BA × Int × Int × BA × Int × Int × qBc) ⊕ Int) :=
 qAw (fun x:(Int × Int)=>qCb word x9_ x.1 qGw x.2 qG0 qG5 qG1 qG4 qG2 qGy qGz) (x10_,qGx)
def zbp_s (r_:json_reader) (word:BA) (k_:Int):Option (json_reader × Bool) :=
 (zbp_p0 word (word.size:Int) (0:Int) r_.text r_.at_ r_.state r_.key r_.code r_.bad r_.out r_.open_ r_.names).bind fun o26=>(Sum.elim (fun (o26_0:Bool × BA × Int × Int × BA × Int × Int × qBc) =>
  some ((⟨o26_0.2.1,o26_0.2.2.1,o26_0.2.2.2.1,r_.out,r_.open_,o26_0.2.2.2.2.2.2.2,o26_0.2.2.2.2.1,o26_0.2.2.2.2.2.1,o26_0.2.2.2.2.2.2.1⟩:json_reader),o26_0.1)) (fun (o26_1:Int) =>
  (zbo_s {r_ with at_:=o26_1:json_reader} (⟨k_,(⟨#[]⟩:BA),(⟨#[]⟩:BA),false,(0:Int),(0:Int)⟩:Eng.Node)).bind fun r27 =>
  (zbi_s {r27 with open_:=r_.open_:json_reader}).bind fun r28 =>
  some ({r28 with out:=r27.out,open_:=r_.open_:json_reader},true))) o26
def zbp_G:Nat→Option CQ:=tblQ [(88,zbs_w),(91,zbu_w),(100,zbo_w),(97,zbi_w)]
def zbp_d0:=(dQS (qAa (dSO 0 (dH 0 0)) (qAa (dSO 1 dS) (qAa (dSO 2 dZ) (qAa (dSO 9 dZ) (qAa (dSO 10 dZ) dNil))))) zDJP4)
def zbp_l0:SubQ:=mkL zbp_d0 (fun x=>zbp_p0 x.1.2.1 x.1.2.2.2.1 x.1.2.2.2.2.1 x.2.1.1 x.2.1.2.1 x.2.1.2.2.1 x.2.1.2.2.2.2.2.2.1 x.2.1.2.2.2.2.2.2.2.1 x.2.1.2.2.2.2.2.2.2.2.1 x.2.2.1 x.2.2.2.1 x.2.2.2.2.1) fun x r R kn kx kr=>(Sum.elim (fun (r_0:Bool × BA × Int × Int × BA × Int × Int × qBc)=>kr ⟨[sL 6 (.vB r_0.1)],[],[.cells 119 [.vS r_0.2.1,.vI r_0.2.2.1,.vI r_0.2.2.2.1,.own 4,.own 2,.bsl 3,.vS r_0.2.2.2.2.1,.vI r_0.2.2.2.2.2.1,.vI r_0.2.2.2.2.2.2.1],.dead,.view .i64 x.2.2.2.1,.bag qA2 138 r_0.2.2.2.2.2.2.2,.row .node 39 x.2.2.1]⟩) (fun (r_1:Int)=>kx 0 ⟨[sL 0 (.hd 0 0),sL 2 (.vI x.1.2.2.1)],[],[.cells 119 [.vS x.2.1.1,.vI r_1,.vI x.2.1.2.2.1,.own 1,.own 2,.bsl 3,.vS x.2.1.2.2.2.2.2.2.1,.vI x.2.1.2.2.2.2.2.2.2.1,.vI x.2.1.2.2.2.2.2.2.2.2.1],.row .node 39 x.2.2.1,.view .i64 x.2.2.2.1,.bag qA2 138 x.2.2.2.2.1]⟩)) r
def zbp_L:Nat→SubQ:=tblL [(0,zbp_l0)]
theorem zbp_sub0:qBe zbp_L zbp_G 4 11 35 0 zbp_b0:=qAo (show zbp_L 0=zbp_l0 from by kernel_rfl) fun x R kn kx kr=>qAl (step:=fun y=>qCb x.1.2.1 x.1.2.2.2.1 y.1 x.2.1.1 y.2 x.2.1.2.2.1 x.2.1.2.2.2.2.2.2.1 x.2.1.2.2.2.2.2.2.2.1 x.2.1.2.2.2.2.2.2.2.2.1 x.2.2.1 x.2.2.2.1 x.2.2.2.2.1) (enc:=fun (y:Int × Int)=>zbp_d0.e ((x.1.1,x.1.2.1,x.1.2.2.1,x.1.2.2.2.1,y.1,x.1.2.2.2.2.2),((x.2.1.1,y.2,x.2.1.2.2),x.2.2))) (fun y=>by kernel_rfl) (fun y ki=>by simp only [qCb,-eq_self,sZ]; kernel_rfl) (x.1.2.2.2.2.1,x.2.1.2.1)
def zbp_c:CS:=mkC (qAa (dVC (dCO (dH 0 0))) (qAa (dVC (dCO dS)) (qAa (dVC (dCO dZ)) dNil))) (qAa qC5 (qAa (dRow .node 39) zDJP2)) (fun x y=>zbp_s (zYJP2 y) x.2.1 x.2.2.1) (fun x y r=>.c (.o (.vB r.2))) fun x y r=>[.cells 119 [.vS r.1.text,.vI r.1.at_,.vI r.1.state,.own 4,.own 2,.bsl 3,.vS r.1.key,.vI r.1.code,.vI r.1.bad],.dead,.view .i64 y.2.2.1,.bag qA2 138 r.1.names,.row .node 39 r.1.out]
theorem zbp_val:qAh Tryd.prog 102 zbp_c:=vl1 zbp_q [.tmp 6] 35 11 4 (show qA3 zbp_L zbp_G 4 11 35 [(0,zbp_b0)] from ⟨zbp_sub0,tV⟩) (qAr ⟨zbs_ok,zbu_ok,zbo_ok,zbi_ok,tV⟩) fun x y=>by
 simp only [zbp_s,-eq_self,sZ];kernel_rfl
def zbp_w:CQ:=qBk [(0,some 3,some (.node,39)),(0,some 4,some (.i64,3)),(0,some 5,some ((.bag qA2),138))] (qBq [true,true,false,true] zbp_c)
theorem zbp_ok:qAe Tryd.prog 102 zbp_w:=qAn zbp_val
def zca_q:IQ:=(.seq (rg 4 [oP 4 (.mv vF)]) (.seq (.block 0 (.seq (rg 7 [oM 8 t1,oP 9 (.bi .eql t8 (vC 91)),oM 10 t9,oE 11 (.mv t1) 10,oE 12 (.bi .eql t11 (vC 123)) 10,oP 13 (.pick t10 vT t12),oM 7 t13]) (.cond t7 (.seq (rg 4 [oM 14 t0,oM 15 t1,oP 16 (.call 98 [t14,t15]),oM 4 t16]) (.canon [(1000000,some 3,.u8,0),(3000001,none,.u8,0),(1000000,some 4,.u8,0),(3000002,none,.u8,0),(1000000,some 5,.u8,0),(3000003,none,.u8,0)] [4] .ret)) (.seq (rg 17 [oM 18 t1,oP 19 (.bi .eql t18 (vC 34)),oM 17 t19]) (.cond t17 (.seq (rg 6 [oM 21 t0,oP 22 (.call 99 [t21]),oM 20 t22,oP 23 (.extract t20 0),oP 24 (.extract t20 1),oM 5 t23,oM 6 t24]) (.seq (.seq (rg 25 [oM 25 t6]) (.cond t25 (.seq (rg 29 [oM 26 t0,oM 27 t5,oP 28 (.build [.int .i64 0,.string ⟨#[]⟩,.string ⟨#[]⟩,.bool false,.int .i64 0,.int .i64 0] [(0,1,(vI 5)),(2,1,t27)]),oP 29 (.call 100 [t26,t28])]) (rg 31 [oM 30 t0,oP 31 (.call 97 [t30])])) .skip)) (.seq (rg 4 [oM 32 t6,oM 4 t32]) (.canon [(1000000,some 3,.u8,0),(3000001,none,.u8,0),(1000000,some 4,.u8,0),(3000002,none,.u8,0),(1000000,some 5,.u8,0),(3000003,none,.u8,0)] [4] .ret)))) (.seq (rg 33 [oM 34 t1,oP 35 (.bi .eql t34 (vC 45)),oM 36 t35,oE 37 (.mv t1) 36,oE 38 (.bi .geq t37 (vC 48)) 36,oE 39 (.mv t38) 36,oF 40 (.mv t1) 39,oF 41 (.bi .leq t40 (vC 57)) 39,oE 42 (.pick t39 t41 vF) 36,oP 43 (.pick t36 vT t42),oM 33 t43]) (.cond t33 (.seq (rg 4 [oM 44 t0,oP 45 (.call 101 [t44]),oM 4 t45]) (.canon [(1000000,some 3,.u8,0),(3000001,none,.u8,0),(1000000,some 4,.u8,0),(3000002,none,.u8,0),(1000000,some 5,.u8,0),(3000003,none,.u8,0)] [4] .ret)) (.seq (rg 46 [oM 47 t1,oP 48 (.bi .eql t47 (vC 110)),oM 46 t48]) (.cond t46 (.seq (rg 4 [oM 49 t0,oP 50 (.call 102 [t49,(.v (.string ⟨#[110,117,108,108]⟩)),(vI 1)]),oM 4 t50]) (.canon [(1000000,some 3,.u8,0),(3000001,none,.u8,0),(1000000,some 4,.u8,0),(3000002,none,.u8,0),(1000000,some 5,.u8,0),(3000003,none,.u8,0)] [4] .ret)) (.seq (rg 51 [oM 52 t1,oP 53 (.bi .eql t52 (vC 102)),oM 51 t53]) (.cond t51 (.seq (rg 4 [oM 54 t0,oP 55 (.call 102 [t54,(.v (.string ⟨#[102,97,108,115,101]⟩)),(vI 2)]),oM 4 t55]) (.canon [(1000000,some 3,.u8,0),(3000001,none,.u8,0),(1000000,some 4,.u8,0),(3000002,none,.u8,0),(1000000,some 5,.u8,0),(3000003,none,.u8,0)] [4] .ret)) (.seq (rg 56 [oM 57 t1,oP 58 (.bi .eql t57 (vC 116)),oM 56 t58]) (.cond t56 (.seq (rg 4 [oM 59 t0,oP 60 (.call 102 [t59,(.v (.string ⟨#[116,114,117,101]⟩)),(vI 3)]),oM 4 t60]) (.canon [(1000000,some 3,.u8,0),(3000001,none,.u8,0),(1000000,some 4,.u8,0),(3000002,none,.u8,0),(1000000,some 5,.u8,0),(3000003,none,.u8,0)] [4] .ret)) .skip))))))))))))) (.seq (rg 4 [oM 61 t0,oP 62 (.call 91 [t61]),oM 4 t62]) (.canon [(1000000,some 3,.u8,0),(3000001,none,.u8,0),(1000000,some 4,.u8,0),(3000002,none,.u8,0),(1000000,some 5,.u8,0),(3000003,none,.u8,0)] [4] .ret))))
def zca_s (r_:json_reader) (c:Int):Option (json_reader × Bool) :=
 bif ((decide (c=(91:Int))) || (decide (c=(123:Int)))) then (
  (zbh_s r_ c).bind fun r10 =>
  some (r10.1,r10.2))
 else (
  bif decide (c=(34:Int)) then (
   (zbw_s r_).bind fun r11 =>
   bif r11.2.2 then (
    (zbo_s {r11.1 with out:=r_.out,open_:=r_.open_:json_reader} (⟨(5:Int),(⟨#[]⟩:BA),r11.2.1,false,(0:Int),(0:Int)⟩:Eng.Node)).bind fun r12 =>
    (zbi_s {r12 with open_:=r_.open_:json_reader}).bind fun r13 =>
    some ({r13 with out:=r12.out,open_:=r_.open_:json_reader},r11.2.2))
   else (
    some ({r11.1 with out:=r_.out,open_:=r_.open_:json_reader},r11.2.2)))
  else (
   bif ((decide (c=(45:Int))) || ((decide ((48:Int)≤c)) && (decide (c≤(57:Int))))) then (
    (zbt_s r_).bind fun r14 =>
    some ({r14.1 with open_:=r_.open_:json_reader},r14.2))
   else (
    bif decide (c=(110:Int)) then (
     (zbp_s r_ (⟨#[110,117,108,108]⟩:BA) (1:Int)).bind fun r15 =>
     some ({r15.1 with open_:=r_.open_:json_reader},r15.2))
    else (
     bif decide (c=(102:Int)) then (
      (zbp_s r_ (⟨#[102,97,108,115,101]⟩:BA) (2:Int)).bind fun r16 =>
      some ({r16.1 with open_:=r_.open_:json_reader},r16.2))
     else (
      bif decide (c=(116:Int)) then (
       (zbp_s r_ (⟨#[116,114,117,101]⟩:BA) (3:Int)).bind fun r17 =>
       some ({r17.1 with open_:=r_.open_:json_reader},r17.2))
      else (
       (zbu_s r_).bind fun r18 =>
       some ({r18.1 with out:=r_.out,open_:=r_.open_:json_reader},r18.2)))))))
def zca_c:CS:=mkC (qAa (dVC (dCO (dH 0 0))) zDJP7) (qAa qC5 (qAa (dRow .node 39) zDJP3)) (fun x y=>zca_s (zYJP3 y) x.2.1) (fun x y r=>.c (.o (.vB r.2))) fun x y r=>[.cells 119 [.vS r.1.text,.vI r.1.at_,.vI r.1.state,.own 4,.own 5,.bsl 6,.vS r.1.key,.vI r.1.code,.vI r.1.bad],.dead,.dead,.dead,.row .node 39 r.1.out,.row .i64 3 r.1.open_,.bag qA2 138 r.1.names]
theorem zca_val:qAh Tryd.prog 90 zca_c:=vl0 zca_q [.tmp 4] 63 7 4 [(98,zbh_w),(99,zbw_w),(100,zbo_w),(97,zbi_w),(101,zbt_w),(102,zbp_w),(91,zbu_w)] ⟨zbh_ok,zbw_ok,zbo_ok,zbi_ok,zbt_ok,zbp_ok,zbu_ok,tV⟩ fun x y=>by
 simp only [zca_s,-eq_self,sZ];kernel_rfl
def zca_w:CQ:=qBk [(0,some 3,some (.node,39)),(0,some 4,some (.i64,3)),(0,some 5,some ((.bag qA2),138))] (qBq [true,true,true,true] zca_c)
theorem zca_ok:qAe Tryd.prog 90 zca_w:=qAn zca_val
def zbr_q:IQ:=(.seq (rg 2 [oP 2 (.mv vF)]) (.seq (rg 3 (rF 7 t0 1++[oM 3 t10])) (.seq (rg 5 [oM 12 t0,oP 13 (.call 99 [t12]),oM 11 t13,oP 14 (.extract t11 0),oP 15 (.extract t11 1),oM 4 t14,oM 5 t15]) (.seq (.seq (rg 17 [oM 16 t5,oP 17 (.un .not t16)]) (.cond t17 (.seq (rg 2 [oP 2 (.mv vF)]) (.cn [2] .ret)) .skip)) (.seq (.reg 6 (some [0,1,2,3,4,5,6,7,8,9,10,11,12]) (rF 18 t0 5++rF 22 t0 5++[oP 26 (.len t25),oP 27 (.bi .sub t26 (vI 1)),oP 28 (.iaddr 1 t21 t27),oP 29 (.load none t28),oM 6 t29])) (.seq (.seq (rg 33 [oM 30 t6,oM 31 t4,oP 32 (.ext .mget [t30,t31]),oP 33 (.bi .gtr t32 (vI 0))]) (.cond t33 (.seq (rg 2 [oM 34 t0,oM 35 t3,oP 36 (.call 103 [t34,(vI 34),t35]),oM 2 t36]) (.cn [2] .ret)) .skip)) (.seq (rg 0 [oM 37 t6,oM 38 t4,oN (.ext .mput [t37,t38,(vI 1)])]) (.seq (rg 0 ([oM 39 t0,oM 40 t4]++rS 41 t39 6 t40)) (.seq (rg 0 ([oM 43 t0]++rS 44 t43 2 (vI 4))) (.seq (rg 2 [oP 2 (.mv vT)]) (.cn [2] .ret)))))))))))
def zbr_s (r_:json_reader):Option (json_reader × Bool) :=
 (zbw_s r_).bind fun r2 =>
 bif (!r2.2.2) then (
  some ({r2.1 with out:=r_.out,open_:=r_.open_:json_reader},false))
 else (
  gd (qAc ((r2.1.names.length:Int) - (1:Int))) <|
  gd (0≤((r2.1.names.length:Int) - (1:Int))∧((r2.1.names.length:Int) - (1:Int))<r2.1.names.length) <|
  gd ((Int.toNat ((r2.1.names.length:Int) - (1:Int)))<r2.1.names.length) <|
  gd ((Int.toNat ((r2.1.names.length:Int) - (1:Int)))<r2.1.names.length) <|
  bif decide ((0:Int)<(mget ((r2.1.names.getD (Int.toNat ((r2.1.names.length:Int) - (1:Int))) (NT.dft qA2)).1) r2.2.1)) then (
   (zbn_s {r2.1 with out:=r_.out,open_:=r_.open_:json_reader} (34:Int) r_.at_).bind fun r3 =>
   some ({r3.1 with out:=r_.out,open_:=r_.open_:json_reader},r3.2))
  else (
   gd ((Int.toNat ((r2.1.names.length:Int) - (1:Int)))<r2.1.names.length) <|
   gd (((r2.1.names.getD (Int.toNat ((r2.1.names.length:Int) - (1:Int))) (NT.dft qA2)).1).isSome=true) <|
   some ((⟨r2.1.text,r2.1.at_,(4:Int),r_.out,r_.open_,(r2.1.names.set (Int.toNat ((r2.1.names.length:Int) - (1:Int))) ((mput ((r2.1.names.getD (Int.toNat ((r2.1.names.length:Int) - (1:Int))) (NT.dft qA2)).1) r2.2.1 (1:Int)),(r2.1.names.getD (Int.toNat ((r2.1.names.length:Int) - (1:Int))) (NT.dft qA2)).2)),r2.2.1,r2.1.code,r2.1.bad⟩:json_reader),true)))
def zbr_c:CS:=mkC (qAa (dVC (dCO (dH 0 0))) dNil) (qAa qC5 (qAa (qBn .node) zDJP2)) (fun x y=>zbr_s (zYJP0 y)) (fun x y r=>.c (.o (.vB r.2))) fun x y r=>[.cells 119 [.vS r.1.text,.vI r.1.at_,.vI r.1.state,.own 1,.own 2,.bsl 3,.vS r.1.key,.vI r.1.code,.vI r.1.bad],.view .node y.2.1,.view .i64 y.2.2.1,.bag qA2 138 r.1.names]
theorem zbr_val:qAh Tryd.prog 92 zbr_c:=vl0 zbr_q [.tmp 2] 46 7 4 [(99,zbw_w),(103,zbn_w)] ⟨zbw_ok,zbn_ok,tV⟩ fun x y=>by
 simp only [zbr_s,-eq_self,sZ];kernel_rfl
def zbr_w:CQ:=qBk [(0,some 3,some (.node,39)),(0,some 4,some (.i64,3)),(0,some 5,some ((.bag qA2),138))] (qBq [true,false,false,true] zbr_c)
theorem zbr_ok:qAe Tryd.prog 92 zbr_w:=qAn zbr_val
def zbq_q:IQ:=(.seq (rg 4 [oP 4 (.mv vF)]) (.seq (.reg 5 (some [0,1,2,3,4,5,6,7,8,9,10,11,12,13,14,15,16,17,18,19,20]) (rF 6 t0 3++rF 10 t0 4++rF 14 t0 4++[oP 18 (.len t17),oP 19 (.bi .sub t18 (vI 1)),oP 20 (.iaddr 1 t13 t19),oP 21 (.load none t20),oP 22 (.iaddr 6 t9 t21),oP 23 (.faddr 0 t22),oP 24 (.load none t23),oP 25 (.bi .eql t24 (vI 7)),oM 5 t25])) (.seq (.block 0 (.seq (rg 28 [oM 29 t1,oP 30 (.bi .eql t29 (vC 44)),oM 31 t30,oF 32 (.mv t5) 31,oP 33 (.pick t31 t32 vF),oM 28 t33]) (.cond t28 (rg 0 ([oM 34 t0]++rS 35 t34 2 (vI 2))) (.seq (rg 37 [oM 38 t1,oP 39 (.bi .eql t38 (vC 44)),oM 37 t39]) (.cond t37 (rg 0 ([oM 40 t0]++rS 41 t40 2 (vI 0))) (.seq (rg 43 [oM 44 t1,oP 45 (.bi .eql t44 (vC 125)),oM 46 t45,oF 47 (.mv t5) 46,oP 48 (.pick t46 t47 vF),oM 49 t48,oE 50 (.mv t1) 49,oE 51 (.bi .eql t50 (vC 93)) 49,oE 52 (.mv t51) 49,oF 53 (.mv t5) 52,oF 54 (.un .not t53) 52,oE 55 (.pick t52 t54 vF) 49,oP 56 (.pick t49 vT t55),oM 43 t56]) (.cond t43 (.seq (rg 4 [oM 57 t0,oP 58 (.call 89 [t57]),oM 4 t58]) (.canon [(1000000,some 4,.u8,0),(3000002,none,.u8,0),(1000000,some 5,.u8,0),(3000003,none,.u8,0)] [4] .ret)) (.seq (rg 4 [oM 26 t0,oP 27 (.call 91 [t26]),oM 4 t27]) (.canon [(1000000,some 4,.u8,0),(3000002,none,.u8,0),(1000000,some 5,.u8,0),(3000003,none,.u8,0)] [4] .ret))))))))) (.seq (rg 0 (rF 59 t0 1++[oP 63 (.bi .add t62 (vI 1))]++rS 64 t59 1 t63)) (.seq (rg 4 [oP 4 (.mv vT)]) (.canon [(1000000,some 4,.u8,0),(3000002,none,.u8,0),(1000000,some 5,.u8,0),(3000003,none,.u8,0)] [4] .ret))))))
def zbq_s (r_:json_reader) (c:Int):Option (json_reader × Bool) :=
 gd (qAc ((r_.open_.length:Int) - (1:Int))) <|
 gd (0≤((r_.open_.length:Int) - (1:Int))∧((r_.open_.length:Int) - (1:Int))<r_.open_.length) <|
 gd ((Int.toNat ((r_.open_.length:Int) - (1:Int)))<r_.open_.length) <|
 gd (0≤(r_.open_.getD (Int.toNat ((r_.open_.length:Int) - (1:Int))) (ET.dft .i64))∧(r_.open_.getD (Int.toNat ((r_.open_.length:Int) - (1:Int))) (ET.dft .i64))<r_.out.length) <|
 gd ((Int.toNat (r_.open_.getD (Int.toNat ((r_.open_.length:Int) - (1:Int))) (ET.dft .i64)))<r_.out.length) <|
 gd ((Int.toNat (r_.open_.getD (Int.toNat ((r_.open_.length:Int) - (1:Int))) (ET.dft .i64)))<r_.out.length) <|
 bif ((decide (c=(44:Int))) && (decide (((r_.out.getD (Int.toNat (r_.open_.getD (Int.toNat ((r_.open_.length:Int) - (1:Int))) (ET.dft .i64))) (ET.dft .node)).kind)=(7:Int)))) then (
  gd (qAc (r_.at_+(1:Int))) <|
  some ({r_ with at_:=(r_.at_+(1:Int)),state:=(2:Int):json_reader},true))
 else (
  bif decide (c=(44:Int)) then (
   gd (qAc (r_.at_+(1:Int))) <|
   some ({r_ with at_:=(r_.at_+(1:Int)),state:=(0:Int):json_reader},true))
  else (
   bif (((decide (c=(125:Int))) && (decide (((r_.out.getD (Int.toNat (r_.open_.getD (Int.toNat ((r_.open_.length:Int) - (1:Int))) (ET.dft .i64))) (ET.dft .node)).kind)=(7:Int)))) || ((decide (c=(93:Int))) && (!(decide (((r_.out.getD (Int.toNat (r_.open_.getD (Int.toNat ((r_.open_.length:Int) - (1:Int))) (ET.dft .i64))) (ET.dft .node)).kind)=(7:Int)))))) then (
    (zbl_s r_).bind fun r2 =>
    some ({r2.1 with out:=r_.out:json_reader},r2.2))
   else (
    (zbu_s r_).bind fun r3 =>
    some ({r3.1 with out:=r_.out,open_:=r_.open_:json_reader},r3.2))))
def zbq_c:CS:=mkC (qAa (dVC (dCO (dH 0 0))) zDJP7) (qAa qC5 (qAa (qBn .node) zDJP3)) (fun x y=>zbq_s (zYJP1 y) x.2.1) (fun x y r=>.c (.o (.vB r.2))) fun x y r=>[.cells 119 [.vS r.1.text,.vI r.1.at_,.vI r.1.state,.own 1,.own 4,.bsl 5,.vS r.1.key,.vI r.1.code,.vI r.1.bad],.view .node y.2.1,.dead,.dead,.row .i64 3 r.1.open_,.bag qA2 138 r.1.names]
theorem zbq_val:qAh Tryd.prog 93 zbq_c:=vl0 zbq_q [.tmp 4] 66 6 4 [(89,zbl_w),(91,zbu_w)] ⟨zbl_ok,zbu_ok,tV⟩ fun x y=>by
 simp only [zbq_s,-eq_self,sZ];kernel_rfl
def zbq_w:CQ:=qBk [(0,some 3,some (.node,39)),(0,some 4,some (.i64,3)),(0,some 5,some ((.bag qA2),138))] (qBq [true,false,true,true] zbq_c)
theorem zbq_ok:qAe Tryd.prog 93 zbq_w:=qAn zbq_val
def zby_b0:IQ:=(.seq (.seq (.seq (rg 34 [oM 33 t3,oP 34 (.bi .neq t33 (vC 34))]) (.cond t34 (.seq (rg 2 [oM 35 t0,oP 36 (.call 91 [t35]),oM 2 t36]) (.canon [(1000000,some 3,.u8,0),(3000001,none,.u8,0),(1000000,some 4,.u8,0),(3000002,none,.u8,0),(1000000,some 5,.u8,0),(3000003,none,.u8,0)] [2] .ret)) .skip)) (.seq (rg 2 [oM 37 t0,oP 38 (.call 92 [t37]),oM 2 t38]) (.canon [(1000000,some 3,.u8,0),(3000001,none,.u8,0),(1000000,some 4,.u8,0),(3000002,none,.u8,0),(1000000,some 5,.u8,0),(3000003,none,.u8,0)] [2] .ret))) (.exit 0))
def zby_q:IQ:=(.seq (rg 2 [oP 2 (.mv vF)]) (.seq (rg 3 [oM 4 t0,oP 5 (.call 88 [t4]),oM 3 t5]) (.seq (.seq (rg 9 (rF 6 t0 2)) (.block 0 (.seq (.block 6 (.seq (.block 5 (.seq (.block 4 (.seq (.block 3 (.seq (.block 2 (.seq (.block 1 (.seq (.seq (.seq (rg 10 [oP 11 (.bi .eql t9 (vI 1)),oM 10 t11]) (.cond t10 (.exit 1) .skip)) (.seq (.seq (rg 12 [oP 13 (.bi .eql t9 (vI 0)),oM 12 t13]) (.cond t12 (.exit 2) .skip)) (.seq (.seq (rg 14 [oP 15 (.bi .eql t9 (vI 3)),oM 14 t15]) (.cond t14 (.exit 3) .skip)) (.seq (.seq (rg 16 [oP 17 (.bi .eql t9 (vI 2)),oM 16 t17]) (.cond t16 (.exit 4) .skip)) (.seq (.seq (rg 18 [oP 19 (.bi .eql t9 (vI 4)),oM 18 t19]) (.cond t18 (.exit 5) .skip)) (.seq (rg 20 [oP 21 (.bi .eql t9 (vI 5)),oM 20 t21]) (.cond t20 (.exit 6) .skip))))))) (.exit 0))) (.seq (rg 23 [oM 22 t3,oP 23 (.bi .eql t22 (vC 93))]) (.cond t23 (.seq (rg 2 [oM 24 t0,oP 25 (.call 89 [t24]),oM 2 t25]) (.canon [(1000000,some 3,.u8,0),(3000001,none,.u8,0),(1000000,some 4,.u8,0),(3000002,none,.u8,0),(1000000,some 5,.u8,0),(3000003,none,.u8,0)] [2] .ret)) .skip)))) (.seq (.seq (rg 2 [oM 26 t0,oM 27 t3,oP 28 (.call 90 [t26,t27]),oM 2 t28]) (.canon [(1000000,some 3,.u8,0),(3000001,none,.u8,0),(1000000,some 4,.u8,0),(3000002,none,.u8,0),(1000000,some 5,.u8,0),(3000003,none,.u8,0)] [2] .ret)) (.exit 0)))) (.seq (rg 30 [oM 29 t3,oP 30 (.bi .eql t29 (vC 125))]) (.cond t30 (.seq (rg 2 [oM 31 t0,oP 32 (.call 89 [t31]),oM 2 t32]) (.canon [(1000000,some 3,.u8,0),(3000001,none,.u8,0),(1000000,some 4,.u8,0),(3000002,none,.u8,0),(1000000,some 5,.u8,0),(3000003,none,.u8,0)] [2] .ret)) .skip)))) (.cn [0,3] (.sub 0 zby_b0)))) (.seq (.seq (.seq (rg 40 [oM 39 t3,oP 40 (.bi .neq t39 (vC 58))]) (.cond t40 (.seq (rg 2 [oM 41 t0,oP 42 (.call 91 [t41]),oM 2 t42]) (.canon [(1000000,some 3,.u8,0),(3000001,none,.u8,0),(1000000,some 4,.u8,0),(3000002,none,.u8,0),(1000000,some 5,.u8,0),(3000003,none,.u8,0)] [2] .ret)) .skip)) (.seq (rg 0 (rF 43 t0 1++[oP 47 (.bi .add t46 (vI 1))]++rS 48 t43 1 t47)) (.seq (rg 0 ([oM 50 t0]++rS 51 t50 2 (vI 0))) (.seq (rg 2 [oP 2 (.mv vT)]) (.canon [(1000000,some 3,.u8,0),(3000001,none,.u8,0),(1000000,some 4,.u8,0),(3000002,none,.u8,0),(1000000,some 5,.u8,0),(3000003,none,.u8,0)] [2] .ret))))) (.exit 0)))) (.seq (.seq (rg 2 [oM 53 t0,oM 54 t3,oP 55 (.call 93 [t53,t54]),oM 2 t55]) (.canon [(1000000,some 3,.u8,0),(3000001,none,.u8,0),(1000000,some 4,.u8,0),(3000002,none,.u8,0),(1000000,some 5,.u8,0),(3000003,none,.u8,0)] [2] .ret)) (.exit 0))))) (.seq (rg 2 [oM 56 t0,oP 57 (.call 91 [t56]),oM 2 t57]) (.canon [(1000000,some 3,.u8,0),(3000001,none,.u8,0),(1000000,some 4,.u8,0),(3000002,none,.u8,0),(1000000,some 5,.u8,0),(3000003,none,.u8,0)] [2] .ret)))))
def zby_p0 (c:Int) (qGw:BA) (qGx qG0:Int) (qG5:BA) (qG1 qG4:Int) (qG2:List Eng.Node) (qGy:List Int) (qGz:qBc):Option (Bool × BA × Int × Int × BA × Int × Int × qBc) :=
 bif (!decide (c=(34:Int))) then (
  (zbu_s (⟨qGw,qGx,qG0,qG2,qGy,qGz,qG5,qG1,qG4⟩:json_reader)).bind fun r14 =>
  some (r14.2,r14.1.text,r14.1.at_,r14.1.state,r14.1.key,r14.1.code,r14.1.bad,r14.1.names))
 else (
  (zbr_s (⟨qGw,qGx,qG0,qG2,qGy,qGz,qG5,qG1,qG4⟩:json_reader)).bind fun r15 =>
  some (r15.2,r15.1.text,r15.1.at_,r15.1.state,r15.1.key,r15.1.code,r15.1.bad,r15.1.names))
def zby_s (r_:json_reader):Option (json_reader × Bool) :=
 (zbs_s r_).bind fun r9 =>
 bif decide (r_.state=(1:Int)) then (
  bif decide (r9=(93:Int)) then (
   (zbl_s r_).bind fun r10 =>
   some ({r10.1 with out:=r_.out:json_reader},r10.2))
  else (
   (zca_s r_ r9).bind fun r11 =>
   some (r11.1,r11.2)))
 else (
  bif decide (r_.state=(0:Int)) then (
   (zca_s r_ r9).bind fun r12 =>
   some (r12.1,r12.2))
  else (
   bif decide (r_.state=(3:Int)) then (
    bif decide (r9=(125:Int)) then (
     (zbl_s r_).bind fun r13 =>
     some ({r13.1 with out:=r_.out:json_reader},r13.2))
    else (
     (zby_p0 r9 r_.text r_.at_ r_.state r_.key r_.code r_.bad r_.out r_.open_ r_.names).bind fun o16 =>
     some ((⟨o16.2.1,o16.2.2.1,o16.2.2.2.1,r_.out,r_.open_,o16.2.2.2.2.2.2.2,o16.2.2.2.2.1,o16.2.2.2.2.2.1,o16.2.2.2.2.2.2.1⟩:json_reader),o16.1)))
   else (
    bif decide (r_.state=(2:Int)) then (
     (zby_p0 r9 r_.text r_.at_ r_.state r_.key r_.code r_.bad r_.out r_.open_ r_.names).bind fun o17 =>
     some ((⟨o17.2.1,o17.2.2.1,o17.2.2.2.1,r_.out,r_.open_,o17.2.2.2.2.2.2.2,o17.2.2.2.2.1,o17.2.2.2.2.2.1,o17.2.2.2.2.2.2.1⟩:json_reader),o17.1))
    else (
     bif decide (r_.state=(4:Int)) then (
      bif (!decide (r9=(58:Int))) then (
       (zbu_s r_).bind fun r18 =>
       some ({r18.1 with out:=r_.out,open_:=r_.open_:json_reader},r18.2))
      else (
       gd (qAc (r_.at_+(1:Int))) <|
       some ({r_ with at_:=(r_.at_+(1:Int)),state:=(0:Int):json_reader},true)))
     else (
      bif decide (r_.state=(5:Int)) then (
       (zbq_s r_ r9).bind fun r19 =>
       some ({r19.1 with out:=r_.out:json_reader},r19.2))
      else (
       (zbu_s r_).bind fun r20 =>
       some ({r20.1 with out:=r_.out,open_:=r_.open_:json_reader},r20.2)))))))
def zby_G:Nat→Option CQ:=tblQ [(88,zbs_w),(89,zbl_w),(90,zca_w),(91,zbu_w),(92,zbr_w),(93,zbq_w)]
def zby_d0:=(dQS (qAa (dSO 0 (dH 0 0)) (qAa (dSO 3 (dI .u8)) dNil)) (qAa qC5 (qAa (dRow .node 39) zDJP3)))
def zby_l0:SubQ:=mkL zby_d0 (fun x=>zby_p0 x.1.2.1 x.2.1.1 x.2.1.2.1 x.2.1.2.2.1 x.2.1.2.2.2.2.2.2.1 x.2.1.2.2.2.2.2.2.2.1 x.2.1.2.2.2.2.2.2.2.2.1 x.2.2.1 x.2.2.2.1 x.2.2.2.2.1) fun x r R kn kx kr=>kr ⟨[sL 2 (.vB r.1)],[],[.cells 119 [.vS r.2.1,.vI r.2.2.1,.vI r.2.2.2.1,.own 4,.own 5,.bsl 6,.vS r.2.2.2.2.1,.vI r.2.2.2.2.2.1,.vI r.2.2.2.2.2.2.1],.dead,.dead,.dead,.row .node 39 x.2.2.1,.row .i64 3 x.2.2.2.1,.bag qA2 138 r.2.2.2.2.2.2.2]⟩
def zby_L:Nat→SubQ:=tblL [(0,zby_l0)]
theorem zby_sub0:qBe zby_L zby_G 4 10 58 0 zby_b0:=qAo (show zby_L 0=zby_l0 from by kernel_rfl) fun x R kn kx kr=>by
 simp only [zby_p0,-eq_self,sZ];kernel_rfl
def zby_c:CS:=mkC (qAa (dVC (dCO (dH 0 0))) dNil) (qAa qC5 (qAa (dRow .node 39) zDJP3)) (fun x y=>zby_s (zYJP3 y)) (fun x y r=>.c (.o (.vB r.2))) fun x y r=>[.cells 119 [.vS r.1.text,.vI r.1.at_,.vI r.1.state,.own 4,.own 5,.bsl 6,.vS r.1.key,.vI r.1.code,.vI r.1.bad],.dead,.dead,.dead,.row .node 39 r.1.out,.row .i64 3 r.1.open_,.bag qA2 138 r.1.names]
theorem zby_val:qAh Tryd.prog 78 zby_c:=vl1 zby_q [.tmp 2] 58 10 4 (show qA3 zby_L zby_G 4 10 58 [(0,zby_b0)] from ⟨zby_sub0,tV⟩) (qAr ⟨zbs_ok,zbl_ok,zca_ok,zbu_ok,zbr_ok,zbq_ok,tV⟩) fun x y=>by
 simp only [zby_s,-eq_self,sZ];kernel_rfl
def zby_w:CQ:=qBk [(0,some 3,some (.node,39)),(0,some 4,some (.i64,3)),(0,some 5,some ((.bag qA2),138))] (qBq [true,true,true,true] zby_c)
theorem zby_ok:qAe Tryd.prog 78 zby_w:=qAn zby_val
def zbf_b0:IQ:=(.loop [0,5] (.seq (.seq (rg 20 (rF 14 t5 1++[oM 18 t0,oP 19 (.lenS t18),oP 20 (.bi .lss t17 t19)])) (.cond t20 .skip (.cn [0,5] (.exit 0)))) (.seq (.block 1 (.seq (rg 25 [oM 23 t5,oP 24 (.call 78 [t23]),oP 25 (.un .not t24)]) (.cond t25 (.seq (.reg 4 (some [0,1,2,3,4,5,6,7,8,9,10]) (rF 26 t5 7++rF 30 t5 8++[oP 2 (.mv (.v (.slice none 0 0))),oM 3 t29,oM 4 t33])) (.canon [(2,none,.node,39)] [2,3,4] .ret)) .skip))) (rg 22 [oM 21 t5,oP 22 (.call 77 [t21])]))))
def zbf_q:IQ:=(.seq (rg 4 [oP 2 (.mv (.v (.slice none 0 0))),oP 3 (.mv (vI 0)),oP 4 (.mv (vI 0))]) (.seq (.seq (rg 8 [oM 6 t0,oP 7 (.lenS t6),oP 8 (.bi .gtr t7 (vI 262144))]) (.cond t8 (.seq (rg 4 [oP 2 (.mv (.v (.slice none 0 0))),oP 3 (.mv (vI 10)),oP 4 (.mv (vI 0))]) (.canon [(2,none,.node,39)] [2,3,4] .ret)) .skip)) (.seq (rg 5 [oM 9 t0,oP 10 (.build [.string ⟨#[]⟩,.int .i64 0,.int .i64 0,.slice none 0 0,.slice none 0 0,.slice none 0 0,.string ⟨#[]⟩,.int .i64 0,.int .i64 0] [(0,1,t9)]),oP 11 (.box 119 9 t10),oM 5 t11]) (.seq (.seq (rg 13 [oM 12 t5,oP 13 (.call 77 [t12])]) (.block 0 (.cn [0,5] (.sub 0 zbf_b0)))) (.seq (.seq (rg 38 (rF 34 t5 2++[oP 38 (.bi .neq t37 (vI 6))])) (.cond t38 (.seq (rg 4 [oM 39 t0,oP 40 (.lenS t39),oP 2 (.mv (.v (.slice none 0 0))),oP 3 (.mv (vI 31)),oM 4 t40]) (.canon [(2,none,.node,39)] [2,3,4] .ret)) .skip)) (.seq (rg 4 (rF 41 t5 3++[oM 2 t44,oP 3 (.mv (vI 0)),oP 4 (.mv (vI 0))])) (.canon [(2,none,.node,39)] [2,3,4] .ret)))))))
def qCa (text qGw:BA) (qGx qG0:Int) (qG5:BA) (qG1 qG4:Int) (qG2:List Eng.Node) (qGy:List Int) (qGz:qBc):Option ((BA × Int × Int × BA × Int × Int × (List Eng.Node) × (List Int) × qBc) ⊕ ((Int × Int × (List Eng.Node)) ⊕ (BA × Int × Int × BA × Int × Int × (List Eng.Node) × (List Int) × qBc))) :=
 bif decide (qGx<(text.size:Int)) then (
  (zby_s (⟨qGw,qGx,qG0,qG2,qGy,qGz,qG5,qG1,qG4⟩:json_reader)).bind fun r29 =>
  bif (!r29.2) then (
   some (.inr (.inl (r29.1.code,r29.1.bad,[]))))
  else (
   (zbj_s r29.1).bind fun r30 =>
   some (.inl (r30.text,r30.at_,r30.state,r30.key,r30.code,r30.bad,r29.1.out,r29.1.open_,r30.names))))
 else (
  some (.inr (.inr (qGw,qGx,qG0,qG5,qG1,qG4,qG2,qGy,qGz))))
def zbf_p0 (text qGw:BA) (qGx qG0:Int) (qG5:BA) (qG1 qG4:Int) (qG2:List Eng.Node) (qGy:List Int) (qGz:qBc):Option ((Int × Int × (List Eng.Node)) ⊕ (BA × Int × Int × BA × Int × Int × (List Eng.Node) × (List Int) × qBc)) :=
 qAw (fun x:(BA × Int × Int × BA × Int × Int × (List Eng.Node) × (List Int) × qBc)=>qCa text x.1 x.2.1 x.2.2.1 x.2.2.2.1 x.2.2.2.2.1 x.2.2.2.2.2.1 x.2.2.2.2.2.2.1 x.2.2.2.2.2.2.2.1 x.2.2.2.2.2.2.2.2) (qGw,qGx,qG0,qG5,qG1,qG4,qG2,qGy,qGz)
def zbf_s (text:BA):Option ((List Eng.Node) × Int × Int) :=
 bif decide ((262144:Int)<(text.size:Int)) then (
  some ([],(10:Int),(0:Int)))
 else (
  (zbj_s (⟨text,(0:Int),(0:Int),[],[],[],(⟨#[]⟩:BA),(0:Int),(0:Int)⟩:json_reader)).bind fun r28 =>
  (zbf_p0 text r28.text r28.at_ r28.state r28.key r28.code r28.bad [] [] r28.names).bind fun o31=>(Sum.elim (fun (o31_0:Int × Int × (List Eng.Node)) =>
   some (o31_0.2.2,o31_0.1,o31_0.2.1)) (fun (o31_1:BA × Int × Int × BA × Int × Int × (List Eng.Node) × (List Int) × qBc) =>
   bif (!decide (o31_1.2.2.1=(6:Int))) then (
    some ([],(31:Int),(text.size:Int)))
   else (
    some (o31_1.2.2.2.2.2.2.1,(0:Int),(0:Int))))) o31)
def zbf_G:Nat→Option CQ:=tblQ [(77,zbj_w),(78,zby_w)]
def zbf_d0:=(dQS (qAa (dSO 0 dS) (qAa (dSO 5 (dH 0 0)) dNil)) (qAa qC5 (qAa (dRow .node 39) zDJP3)))
def zbf_l0:SubQ:=mkL zbf_d0 (fun x=>zbf_p0 x.1.1 x.2.1.1 x.2.1.2.1 x.2.1.2.2.1 x.2.1.2.2.2.2.2.2.1 x.2.1.2.2.2.2.2.2.2.1 x.2.1.2.2.2.2.2.2.2.2.1 x.2.2.1 x.2.2.2.1 x.2.2.2.2.1) fun x r R kn kx kr=>(Sum.elim (fun (r_0:Int × Int × (List Eng.Node))=>kr ⟨[sL 2 (.own 0),sL 3 (.vI r_0.1),sL 4 (.vI r_0.2.1)],[],[.row .node 39 r_0.2.2]⟩) (fun (r_1:BA × Int × Int × BA × Int × Int × (List Eng.Node) × (List Int) × qBc)=>kx 0 ⟨[sL 0 (.vS x.1.1),sL 5 (.hd 0 0)],[],[.cells 119 [.vS r_1.1,.vI r_1.2.1,.vI r_1.2.2.1,.own 1,.own 2,.bsl 3,.vS r_1.2.2.2.1,.vI r_1.2.2.2.2.1,.vI r_1.2.2.2.2.2.1],.row .node 39 r_1.2.2.2.2.2.2.1,.row .i64 3 r_1.2.2.2.2.2.2.2.1,.bag qA2 138 r_1.2.2.2.2.2.2.2.2]⟩)) r
def zbf_L:Nat→SubQ:=tblL [(0,zbf_l0)]
theorem zbf_sub0:qBe zbf_L zbf_G 0 6 45 0 zbf_b0:=qAo (show zbf_L 0=zbf_l0 from by kernel_rfl) fun x R kn kx kr=>qAl (step:=fun y=>qCa x.1.1 y.1 y.2.1 y.2.2.1 y.2.2.2.1 y.2.2.2.2.1 y.2.2.2.2.2.1 y.2.2.2.2.2.2.1 y.2.2.2.2.2.2.2.1 y.2.2.2.2.2.2.2.2) (enc:=fun (y:BA × Int × Int × BA × Int × Int × (List Eng.Node) × (List Int) × qBc)=>zbf_d0.e (x.1,((y.1,y.2.1,y.2.2.1,x.2.1.2.2.2.1,x.2.1.2.2.2.2.1,x.2.1.2.2.2.2.2.1,y.2.2.2.1,y.2.2.2.2.1,y.2.2.2.2.2.1,x.2.1.2.2.2.2.2.2.2.2.2),y.2.2.2.2.2.2.1,y.2.2.2.2.2.2.2.1,y.2.2.2.2.2.2.2.2,x.2.2.2.2.2))) (fun y=>by kernel_rfl) (fun y ki=>by simp only [qCa,-eq_self,sZ]; kernel_rfl) (x.2.1.1,x.2.1.2.1,x.2.1.2.2.1,x.2.1.2.2.2.2.2.2.1,x.2.1.2.2.2.2.2.2.2.1,x.2.1.2.2.2.2.2.2.2.2.1,x.2.2.1,x.2.2.2.1,x.2.2.2.2.1)
def zbf_c:CS:=mkC (qAa (dVC (dCO dS)) dNil) dNil (fun x y=>zbf_s x.1) (fun x y r=>.tup [.o (.own 0),.o (.vI r.2.1),.o (.vI r.2.2)]) fun x y r=>[.row .node 39 r.1]
theorem zbf_val:qAh Tryd.prog 58 zbf_c:=vl1 zbf_q [.tmp 2,.tmp 3,.tmp 4] 45 6 0 (show qA3 zbf_L zbf_G 0 6 45 [(0,zbf_b0)] from ⟨zbf_sub0,tV⟩) (qAr ⟨zbj_ok,zby_ok,tV⟩) fun x y=>by
 simp only [zbf_s,-eq_self,sZ];kernel_rfl
def zbf_w:CQ:=qBq [] zbf_c
theorem zbf_ok:qAe Tryd.prog 58 zbf_w:=qBz zbf_val
end
end Go.Proofs.YtlmfmmgfiffjiaaDoor
