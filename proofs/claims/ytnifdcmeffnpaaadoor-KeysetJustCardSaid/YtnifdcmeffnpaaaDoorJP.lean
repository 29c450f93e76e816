/-
  Functions as the engine reads them (printed by gen.py).
-/
import Derived.Test.YtnifdcmeffnpaaaDoorEngO
import Derived.Test.YtnifdcmeffnpaaaDoorProg
import Derived.Test.YtnifdcmeffnpaaaDoorPUtf
import Derived.Test.YtnifdcmeffnpaaaDoorGC
namespace Go.Proofs.YtnifdcmeffnpaaaDoor
open Go.Eng
set_option linter.unusedVariables false
set_option linter.unusedSimpArgs false
set_option maxRecDepth 100000
noncomputable section
structure json_reader where
 text:BA
 at_:Int
 state:Int
 out:(List Eng.Node)
 open_:(List Int)
 names:(List (MapC × Unit))
 key:BA
 code:Int
 bad:Int
def zam_b0:IQ:=(.loop [0] (.seq (.seq (.reg 59 (some [0,1,2,3,4,5,6,7,8,9,10,11,12,13,14,15,16,17,18,19,20,21,22,23,24,25,26,27,28,29,30,31,32,33,34,35,36,37,38,39,40,41,42,43,44,45,46,47,48,49,50,51,52,53,54,55,56,57]) (rF 2 t0 1++rF 6 t0 0++[oP 10 (.lenS t9),oP 11 (.bi .lss t5 t10),oM 12 t11]++rH oF 13 t0 0 12++rH oF 17 t0 1 12++[oF 21 (.index t16 t20) 12,oF 22 (.bi .eql t21 (vC 32)) 12,oF 23 (.mv t22) 12]++rH oE 24 t0 0 23++rH oE 28 t0 1 23++[oE 32 (.index t27 t31) 23,oE 33 (.bi .eql t32 (vC 9)) 23,oF 34 (.pick t23 vT t33) 12,oF 35 (.mv t34) 12]++rH oE 36 t0 0 35++rH oE 40 t0 1 35++[oE 44 (.index t39 t43) 35,oE 45 (.bi .eql t44 (vC 10)) 35,oF 46 (.pick t35 vT t45) 12,oF 47 (.mv t46) 12]++rH oE 48 t0 0 47++rH oE 52 t0 1 47++[oE 56 (.index t51 t55) 47,oE 57 (.bi .eql t56 (vC 13)) 47,oF 58 (.pick t47 vT t57) 12,oP 59 (.pick t12 t58 vF)])) (.cond t59 .skip (.cn [] (.exit 0)))) (.block 1 (rg 0 (rF 60 t0 1++[oP 64 (.bi .add t63 (vI 1))]++rS 65 t60 1 t64)))))
def zam_q:IQ:=(.join [] [] (.block 0 (.cn [0] (.sub 0 zam_b0))))
theorem zam_chk:chk Tryd.prog 24 []=some (zam_q.erase,[],67):=by kernel_rfl
def qEz (qF3:BA) (qF4:Int):Option (Int ⊕ Int) :=
 gd ((decide (qF4<(qF3.size:Int)))=true→0≤qF4∧qF4<qF3.size) <|
 gd ((decide ((bAt qF3 qF4)=(32:Int)))=false→(decide (qF4<(qF3.size:Int)))=true→0≤qF4∧qF4<qF3.size) <|
 gd (((decide ((bAt qF3 qF4)=(32:Int))) || (decide ((bAt qF3 qF4)=(9:Int))))=false→(decide (qF4<(qF3.size:Int)))=true→0≤qF4∧qF4<qF3.size) <|
 gd ((((decide ((bAt qF3 qF4)=(32:Int))) || (decide ((bAt qF3 qF4)=(9:Int)))) || (decide ((bAt qF3 qF4)=(10:Int))))=false→(decide (qF4<(qF3.size:Int)))=true→0≤qF4∧qF4<qF3.size) <|
 bif ((decide (qF4<(qF3.size:Int))) && ((((decide ((bAt qF3 qF4)=(32:Int))) || (decide ((bAt qF3 qF4)=(9:Int)))) || (decide ((bAt qF3 qF4)=(10:Int)))) || (decide ((bAt qF3 qF4)=(13:Int))))) then (
  gd (qAj (qF4+(1:Int))) <|
  some (.inl (qF4+(1:Int))))
 else (
  some (.inr qF4))
def zam_p0 (qF3:BA) (qF4:Int):Option Int :=
 qBh (fun x:Int=>qEz qF3 x) qF4
def zam_s (r_:json_reader):Option json_reader :=
 (zam_p0 r_.text r_.at_).bind fun o2 =>
 some {r_ with at_:=o2:json_reader}
def zam_G:Nat→Option CQ:=tblQ []
theorem zam_Gok:∀f C,zam_G f=some C→qAe Tryd.prog f C:=fun f C h=>by cases h
def qDd:=(dCells 62 (qAb dS (qAb dZ (qAb dZ (qAb (dO 1) (qAb (dO 2) (qAb (dBsl 3) (qAb dS (qAb dZ (qAb dZ dNil))))))))))
def zDJP2:=(qAb (qA9 .i64) (qAb (dBag [.map] 94) dNil))
def zDJP5:=(qAb qDd (qAb (qA9 .node) zDJP2))
def zam_d0:=(dQS (qAb (dSO 0 (dH 0 0)) dNil) zDJP5)
def zam_l0:SubQ:=mkL zam_d0 (fun x=>zam_p0 x.2.1.1 x.2.1.2.1) fun x r R kn kx kr=>kx 0 ⟨[],[],[.cells 62 [.vS x.2.1.1,.vI r,.vI x.2.1.2.2.1,.own 1,.own 2,.bsl 3,.vS x.2.1.2.2.2.2.2.2.1,.vI x.2.1.2.2.2.2.2.2.2.1,.vI x.2.1.2.2.2.2.2.2.2.2.1],.view .node x.2.2.1,.view .i64 x.2.2.2.1,.bag [.map] 94 x.2.2.2.2.1]⟩
def zam_L:Nat→SubQ:=tblL [(0,zam_l0)]
theorem zam_sub0:qBr zam_L zam_G 4 2 67 0 zam_b0:=qAu (show zam_L 0=zam_l0 from by kernel_rfl) fun x R kn kx kr=>qAs (step:=fun y=>qEz x.2.1.1 y) (enc:=fun (y:Int)=>zam_d0.e (x.1,((x.2.1.1,y,x.2.1.2.2),x.2.2))) (fun y=>by kernel_rfl) (fun y ki=>by simp only [qEz,-eq_self,qAd,qAg,obA,obS,slL,slR,qAc]; kernel_rfl) x.2.1.2.1
theorem zam_subs:qAo zam_L zam_G 4 2 67 zam_q:=qAk (show qAp zam_L zam_G 4 2 67 [(0,zam_b0)] from ⟨zam_sub0,tV⟩)
def zam_da:=(qAb (dVC (dCO (dH 0 0))) dNil)
def zam_db:=(qAb qDd (qAb (qA9 .node) zDJP2))
def zam_c:CS:=mkC zam_da zam_db (fun x y=>zam_s (⟨y.1.1,y.1.2.1,y.1.2.2.1,y.2.1,y.2.2.1,y.2.2.2.1,y.1.2.2.2.2.2.2.1,y.1.2.2.2.2.2.2.2.1,y.1.2.2.2.2.2.2.2.2.1⟩:json_reader)) (fun x y r=>.tup []) fun x y r=>[.cells 62 [.vS r.text,.vI r.at_,.vI r.state,.own 1,.own 2,.bsl 3,.vS r.key,.vI r.code,.vI r.bad],.view .node y.2.1,.view .i64 y.2.2.1,.bag [.map] 94 r.names]
theorem zam_val:qAl Tryd.prog 24 zam_c:=qAm zam_chk 2 zam_Gok 4 (fun x=>Nat.le_of_ble_eq_true rfl) (fun y=>rfl) zam_subs fun x y=>by
 simp only [zam_s,-eq_self,qAd,qAg,obA,obS,slL,slR,qAc];kernel_rfl
def zam_w:CQ:=qBj [(0,some 3,some (.node,34)),(0,some 4,some (.i64,3)),(0,some 5,some ((.bag [.map]),94))] (qCk [true,false,false,true] zam_c)
theorem zam_ok:qAe Tryd.prog 24 zam_w:=qAr zam_val
def zav_q:IQ:=(.seq (rg 2 [oP 2 (.mv (vC 0))]) (.seq (.seq (.reg 12 (some [0,1,2,3,4,5,6,7,8,9]) (rF 3 t0 1++rF 7 t0 0++[oP 11 (.lenS t10),oP 12 (.bi .lss t6 t11)])) (.cond t12 (.seq (.reg 2 (some [0,1,2,3,4,5,6,7,8,9]) (rF 13 t0 0++rF 17 t0 1++[oP 21 (.index t16 t20),oM 2 t21])) (.cn [2] .ret)) .skip)) (.seq (rg 2 [oP 2 (.mv (vC 0))]) (.cn [2] .ret))))
theorem zav_chk:chk Tryd.prog 41 []=some (zav_q.erase,[.tmp 2],22):=by kernel_rfl
def zav_s (r_:json_reader):Option Int :=
 bif decide (r_.at_<(r_.text.size:Int)) then (
  gd (0≤r_.at_∧r_.at_<r_.text.size) <|
  some (bAt r_.text r_.at_))
 else (
  some (0:Int))
def zav_G:Nat→Option CQ:=tblQ []
theorem zav_Gok:∀f C,zav_G f=some C→qAe Tryd.prog f C:=fun f C h=>by cases h
def zav_L:Nat→SubQ:=tblL []
theorem zav_subs:qAo zav_L zav_G 4 3 22 zav_q:=qAk (show qAp zav_L zav_G 4 3 22 [] from tV)
def zav_da:=(qAb (dVC (dCO (dH 0 0))) dNil)
def zav_db:=(qAb qDd (qAb (qA9 .node) zDJP2))
def zav_c:CS:=mkC zav_da zav_db (fun x y=>zav_s (⟨y.1.1,y.1.2.1,y.1.2.2.1,y.2.1,y.2.2.1,y.2.2.2.1,y.1.2.2.2.2.2.2.1,y.1.2.2.2.2.2.2.2.1,y.1.2.2.2.2.2.2.2.2.1⟩:json_reader)) (fun x y r=>.c (.o (.val (.int .u8 r)))) fun x y r=>[.cells 62 [.vS y.1.1,.vI y.1.2.1,.vI y.1.2.2.1,.own 1,.own 2,.bsl 3,.vS y.1.2.2.2.2.2.2.1,.vI y.1.2.2.2.2.2.2.2.1,.vI y.1.2.2.2.2.2.2.2.2.1],.view .node y.2.1,.view .i64 y.2.2.1,.bag [.map] 94 y.2.2.2.1]
theorem zav_val:qAl Tryd.prog 41 zav_c:=qAm zav_chk 3 zav_Gok 4 (fun x=>Nat.le_of_ble_eq_true rfl) (fun y=>rfl) zav_subs fun x y=>by
 simp only [zav_s,-eq_self,qAd,qAg,obA,obS,slL,slR,qAc];kernel_rfl
def zav_w:CQ:=qBj [(0,some 3,some (.node,34)),(0,some 4,some (.i64,3)),(0,some 5,some ((.bag [.map]),94))] (qCk [true,false,false,true] zav_c)
theorem zav_ok:qAe Tryd.prog 41 zav_w:=qAr zav_val
def zal_q:IQ:=(.join [] [] (.seq (rg 0 ([oM 2 t0]++rS 3 t2 2 (vI 5))) (.seq (rg 10 (rF 5 t0 4++[oP 9 (.len t8),oP 10 (.bi .eql t9 (vI 0))])) (.cond t10 (rg 0 ([oM 11 t0]++rS 12 t11 2 (vI 6))) .skip))))
theorem zal_chk:chk Tryd.prog 54 []=some (zal_q.erase,[],14):=by kernel_rfl
def zal_s (r_:json_reader):Option json_reader :=
 bif decide ((r_.open_.length:Int)=(0:Int)) then (
  some {r_ with state:=(6:Int):json_reader})
 else (
  some {r_ with state:=(5:Int):json_reader})
def zal_G:Nat→Option CQ:=tblQ []
theorem zal_Gok:∀f C,zal_G f=some C→qAe Tryd.prog f C:=fun f C h=>by cases h
def zal_L:Nat→SubQ:=tblL []
theorem zal_subs:qAo zal_L zal_G 4 2 14 zal_q:=qAk (show qAp zal_L zal_G 4 2 14 [] from tV)
def zal_da:=(qAb (dVC (dCO (dH 0 0))) dNil)
def zal_db:=(qAb qDd (qAb (qA9 .node) zDJP2))
def zal_c:CS:=mkC zal_da zal_db (fun x y=>zal_s (⟨y.1.1,y.1.2.1,y.1.2.2.1,y.2.1,y.2.2.1,y.2.2.2.1,y.1.2.2.2.2.2.2.1,y.1.2.2.2.2.2.2.2.1,y.1.2.2.2.2.2.2.2.2.1⟩:json_reader)) (fun x y r=>.tup []) fun x y r=>[.cells 62 [.vS r.text,.vI r.at_,.vI r.state,.own 1,.own 2,.bsl 3,.vS r.key,.vI r.code,.vI r.bad],.view .node y.2.1,.view .i64 y.2.2.1,.bag [.map] 94 r.names]
theorem zal_val:qAl Tryd.prog 54 zal_c:=qAm zal_chk 2 zal_Gok 4 (fun x=>Nat.le_of_ble_eq_true rfl) (fun y=>rfl) zal_subs fun x y=>by
 simp only [zal_s,-eq_self,qAd,qAg,obA,obS,slL,slR,qAc];kernel_rfl
def zal_w:CQ:=qBj [(0,some 3,some (.node,34)),(0,some 4,some (.i64,3)),(0,some 5,some ((.bag [.map]),94))] (qCk [true,false,false,true] zal_c)
theorem zal_ok:qAe Tryd.prog 54 zal_w:=qAr zal_val
def zao_q:IQ:=(.seq (rg 2 [oP 2 (.mv vF)]) (.seq (rg 0 (rF 3 t0 1++[oP 7 (.bi .add t6 (vI 1))]++rS 8 t3 1 t7)) (.seq (.reg 0 (some [0,1,2,3,4,5,6,7,8,9,10,11,13,14,15,16,17,18,19,20,21,22,12,24,25,23,26,27,28,29]) ([oM 10 t0,oM 11 t0]++rF 12 t0 4++rF 16 t0 4++[oP 20 (.len t19),oP 21 (.bi .sub t20 (vI 1))]++rF 23 t0 5++rF 27 t0 5++[oP 31 (.len t30),oP 32 (.bi .sub t31 (vI 1)),oP 22 (.sub (some 1) t15 none (some t21)),oP 34 (.nk t10),oP 35 (.faddr 4 t34),oP 33 (.sub (some 1) t26 none (some t32)),oN (.store 1 t35 t22)]++rS 36 t11 5 t33)) (.seq (rg 39 [oM 38 t0,oP 39 (.call 54 [t38])]) (.seq (rg 2 [oP 2 (.mv vT)]) (.cn [2] .ret))))))
theorem zao_chk:chk Tryd.prog 42 []=some (zao_q.erase,[.tmp 2],40):=by kernel_rfl
def zao_s (r_:json_reader):Option (json_reader × Bool) :=
 gd (qAj (r_.at_+(1:Int))) <|
 gd (qAj ((r_.open_.length:Int) - (1:Int))) <|
 gd (qAj ((r_.names.length:Int) - (1:Int))) <|
 gd (0≤((r_.open_.length:Int) - (1:Int))∧((r_.open_.length:Int) - (1:Int))≤r_.open_.length) <|
 gd (0≤((r_.names.length:Int) - (1:Int))∧((r_.names.length:Int) - (1:Int))≤r_.names.length) <|
 (zal_s {r_ with at_:=(r_.at_+(1:Int)),open_:=(r_.open_.take (Int.toNat ((r_.open_.length:Int) - (1:Int)))),names:=(r_.names.take (Int.toNat ((r_.names.length:Int) - (1:Int)))):json_reader}).bind fun r3 =>
 some ({r3 with out:=r_.out,open_:=(r_.open_.take (Int.toNat ((r_.open_.length:Int) - (1:Int)))):json_reader},true)
def zao_G:Nat→Option CQ:=tblQ [(54,zal_w)]
theorem zao_Gok:∀f C,zao_G f=some C→qAe Tryd.prog f C:=qAi ⟨zal_ok,tV⟩
def zao_L:Nat→SubQ:=tblL []
theorem zao_subs:qAo zao_L zao_G 4 3 40 zao_q:=qAk (show qAp zao_L zao_G 4 3 40 [] from tV)
def zao_da:=(qAb (dVC (dCO (dH 0 0))) dNil)
def zDJP3:=(qAb (dRow .i64 3) (qAb (dBag [.map] 94) dNil))
def zao_db:=(qAb qDd (qAb (qA9 .node) zDJP3))
def zao_c:CS:=mkC zao_da zao_db (fun x y=>zao_s (⟨y.1.1,y.1.2.1,y.1.2.2.1,y.2.1,y.2.2.1,y.2.2.2.1,y.1.2.2.2.2.2.2.1,y.1.2.2.2.2.2.2.2.1,y.1.2.2.2.2.2.2.2.2.1⟩:json_reader)) (fun x y r=>.c (.o (.vB r.2))) fun x y r=>[.cells 62 [.vS r.1.text,.vI r.1.at_,.vI r.1.state,.own 1,.own 4,.bsl 5,.vS r.1.key,.vI r.1.code,.vI r.1.bad],.view .node y.2.1,.dead,.dead,.row .i64 3 r.1.open_,.bag [.map] 94 r.1.names]
theorem zao_val:qAl Tryd.prog 42 zao_c:=qAm zao_chk 3 zao_Gok 4 (fun x=>Nat.le_of_ble_eq_true rfl) (fun y=>rfl) zao_subs fun x y=>by
 simp only [zao_s,-eq_self,qAd,qAg,obA,obS,slL,slR,qAc];kernel_rfl
def zao_w:CQ:=qBj [(0,some 3,some (.node,34)),(0,some 4,some (.i64,3)),(0,some 5,some ((.bag [.map]),94))] (qCk [true,false,true,true] zao_c)
theorem zao_ok:qAe Tryd.prog 42 zao_w:=qAr zao_val
def zaq_q:IQ:=(.seq (rg 6 [oP 6 (.mv vF)]) (.seq (rg 0 ([oM 7 t0,oM 8 t0,oM 9 t1,oM 10 t2]++rS 11 t7 7 t9++rS 13 t8 8 t10)) (.seq (rg 6 [oP 6 (.mv vF)]) (.cn [6] .ret))))
theorem zaq_chk:chk Tryd.prog 60 []=some (zaq_q.erase,[.tmp 6],15):=by kernel_rfl
def zaq_s (r_:json_reader) (code at_:Int):Option (json_reader × Bool) :=
 some ({r_ with code:=code,bad:=at_:json_reader},false)
def zaq_G:Nat→Option CQ:=tblQ []
theorem zaq_Gok:∀f C,zaq_G f=some C→qAe Tryd.prog f C:=fun f C h=>by cases h
def zaq_L:Nat→SubQ:=tblL []
theorem zaq_subs:qAo zaq_L zaq_G 4 7 15 zaq_q:=qAk (show qAp zaq_L zaq_G 4 7 15 [] from tV)
def zaq_da:=(qAb (dVC (dCO (dH 0 0))) (qAb (dVC (dCO dZ)) (qAb (dVC (dCO dZ)) dNil)))
def zaq_db:=(qAb qDd (qAb (qA9 .node) zDJP2))
def zaq_c:CS:=mkC zaq_da zaq_db (fun x y=>zaq_s (⟨y.1.1,y.1.2.1,y.1.2.2.1,y.2.1,y.2.2.1,y.2.2.2.1,y.1.2.2.2.2.2.2.1,y.1.2.2.2.2.2.2.2.1,y.1.2.2.2.2.2.2.2.2.1⟩:json_reader) x.2.1 x.2.2.1) (fun x y r=>.c (.o (.vB r.2))) fun x y r=>[.cells 62 [.vS r.1.text,.vI r.1.at_,.vI r.1.state,.own 1,.own 2,.bsl 3,.vS r.1.key,.vI r.1.code,.vI r.1.bad],.view .node y.2.1,.view .i64 y.2.2.1,.bag [.map] 94 r.1.names]
theorem zaq_val:qAl Tryd.prog 60 zaq_c:=qAm zaq_chk 7 zaq_Gok 4 (fun x=>Nat.le_of_ble_eq_true rfl) (fun y=>rfl) zaq_subs fun x y=>by
 simp only [zaq_s,-eq_self,qAd,qAg,obA,obS,slL,slR,qAc];kernel_rfl
def zaq_w:CQ:=qBj [(0,some 3,some (.node,34)),(0,some 4,some (.i64,3)),(0,some 5,some ((.bag [.map]),94))] (qCk [true,false,false,true] zaq_c)
theorem zaq_ok:qAe Tryd.prog 60 zaq_w:=qAr zaq_val
def zar_q:IQ:=(.join [] [] (.seq (rg 3 [oP 3 (.box 34 6 t1)]) (.seq (rg 0 (rF 4 t0 6++[oP 8 (.faddr 1 t3),oN (.store 1 t8 t7)])) (.seq (rg 0 [oM 9 t0,oP 10 (.nk t9),oP 11 (.faddr 6 t10),oN (.store 1 t11 (.v (.string ⟨#[]⟩)))]) (.seq (.seq (rg 17 (rF 12 t0 4++[oP 16 (.len t15),oP 17 (.bi .gtr t16 (vI 0))])) (.cond t17 (.reg 0 (some [0,1,2,3,4,5,6,7,8,9,10,11,12,13,14,15,16,17,18,19,20,21,22]) (rF 18 t0 3++rF 22 t0 4++rF 26 t0 4++[oP 30 (.len t29),oP 31 (.bi .sub t30 (vI 1)),oP 32 (.iaddr 1 t25 t31),oP 33 (.load none t32),oP 34 (.iaddr 6 t21 t33),oP 35 (.faddr 5 t34),oP 36 (.load none t35),oP 37 (.bi .add t36 (vI 1)),oP 38 (.iaddr 6 t21 t33),oP 39 (.faddr 5 t38),oN (.store 1 t39 t37)])) .skip)) (.reg 0 (some [0,1,2,3,4,5,6,7,8,9,10]) ([oM 40 t0]++rF 41 t0 3++[oP 45 (.load (some 6) t3),oP 46 (.bslice 34 6 1 [.int .i64 0,.string ⟨#[]⟩,.string ⟨#[]⟩,.bool false,.int .i64 0,.int .i64 0] [(0,t45)]),oP 47 (.append 34 6 64 [.int .i64 0,.string ⟨#[]⟩,.string ⟨#[]⟩,.bool false,.int .i64 0,.int .i64 0] t44 t46)]++rS 48 t40 3 t47)))))))
theorem zar_chk:chk Tryd.prog 57 []=some (zar_q.erase,[],50):=by kernel_rfl
def zar_s (r_:json_reader) (n:Eng.Node):Option json_reader :=
 bif decide ((0:Int)<(r_.open_.length:Int)) then (
  gd (qAj ((r_.open_.length:Int) - (1:Int))) <|
  gd (0≤((r_.open_.length:Int) - (1:Int))∧((r_.open_.length:Int) - (1:Int))<r_.open_.length) <|
  gd ((Int.toNat ((r_.open_.length:Int) - (1:Int)))<r_.open_.length) <|
  gd (0≤(r_.open_.getD (Int.toNat ((r_.open_.length:Int) - (1:Int))) (ET.dft .i64))∧(r_.open_.getD (Int.toNat ((r_.open_.length:Int) - (1:Int))) (ET.dft .i64))<r_.out.length) <|
  gd ((Int.toNat (r_.open_.getD (Int.toNat ((r_.open_.length:Int) - (1:Int))) (ET.dft .i64)))<r_.out.length) <|
  gd ((Int.toNat (r_.open_.getD (Int.toNat ((r_.open_.length:Int) - (1:Int))) (ET.dft .i64)))<r_.out.length) <|
  gd (qAj (((r_.out.getD (Int.toNat (r_.open_.getD (Int.toNat ((r_.open_.length:Int) - (1:Int))) (ET.dft .i64))) (ET.dft .node)).kids)+(1:Int))) <|
  gd (0≤(r_.open_.getD (Int.toNat ((r_.open_.length:Int) - (1:Int))) (ET.dft .i64))∧(r_.open_.getD (Int.toNat ((r_.open_.length:Int) - (1:Int))) (ET.dft .i64))<r_.out.length) <|
  gd ((Int.toNat (r_.open_.getD (Int.toNat ((r_.open_.length:Int) - (1:Int))) (ET.dft .i64)))<r_.out.length) <|
  gd ((Int.toNat (r_.open_.getD (Int.toNat ((r_.open_.length:Int) - (1:Int))) (ET.dft .i64)))<r_.out.length) <|
  gd ((r_.out.set (Int.toNat (r_.open_.getD (Int.toNat ((r_.open_.length:Int) - (1:Int))) (ET.dft .i64))) (⟨(r_.out.getD (Int.toNat (r_.open_.getD (Int.toNat ((r_.open_.length:Int) - (1:Int))) (ET.dft .i64))) (ET.dft .node)).kind,(r_.out.getD (Int.toNat (r_.open_.getD (Int.toNat ((r_.open_.length:Int) - (1:Int))) (ET.dft .i64))) (ET.dft .node)).key,(r_.out.getD (Int.toNat (r_.open_.getD (Int.toNat ((r_.open_.length:Int) - (1:Int))) (ET.dft .i64))) (ET.dft .node)).text,(r_.out.getD (Int.toNat (r_.open_.getD (Int.toNat ((r_.open_.length:Int) - (1:Int))) (ET.dft .i64))) (ET.dft .node)).whole,(r_.out.getD (Int.toNat (r_.open_.getD (Int.toNat ((r_.open_.length:Int) - (1:Int))) (ET.dft .i64))) (ET.dft .node)).int,(((r_.out.getD (Int.toNat (r_.open_.getD (Int.toNat ((r_.open_.length:Int) - (1:Int))) (ET.dft .i64))) (ET.dft .node)).kids)+(1:Int))⟩:Eng.Node)).length+([(⟨n.kind,r_.key,n.text,n.whole,n.int,n.kids⟩:Eng.Node)]:List Eng.Node).length≤9223372036854775807∧((r_.out.set (Int.toNat (r_.open_.getD (Int.toNat ((r_.open_.length:Int) - (1:Int))) (ET.dft .i64))) (⟨(r_.out.getD (Int.toNat (r_.open_.getD (Int.toNat ((r_.open_.length:Int) - (1:Int))) (ET.dft .i64))) (ET.dft .node)).kind,(r_.out.getD (Int.toNat (r_.open_.getD (Int.toNat ((r_.open_.length:Int) - (1:Int))) (ET.dft .i64))) (ET.dft .node)).key,(r_.out.getD (Int.toNat (r_.open_.getD (Int.toNat ((r_.open_.length:Int) - (1:Int))) (ET.dft .i64))) (ET.dft .node)).text,(r_.out.getD (Int.toNat (r_.open_.getD (Int.toNat ((r_.open_.length:Int) - (1:Int))) (ET.dft .i64))) (ET.dft .node)).whole,(r_.out.getD (Int.toNat (r_.open_.getD (Int.toNat ((r_.open_.length:Int) - (1:Int))) (ET.dft .i64))) (ET.dft .node)).int,(((r_.out.getD (Int.toNat (r_.open_.getD (Int.toNat ((r_.open_.length:Int) - (1:Int))) (ET.dft .i64))) (ET.dft .node)).kids)+(1:Int))⟩:Eng.Node)).length+([(⟨n.kind,r_.key,n.text,n.whole,n.int,n.kids⟩:Eng.Node)]:List Eng.Node).length)*64≤140737488355328) <|
  some {r_ with out:=((r_.out.set (Int.toNat (r_.open_.getD (Int.toNat ((r_.open_.length:Int) - (1:Int))) (ET.dft .i64))) (⟨(r_.out.getD (Int.toNat (r_.open_.getD (Int.toNat ((r_.open_.length:Int) - (1:Int))) (ET.dft .i64))) (ET.dft .node)).kind,(r_.out.getD (Int.toNat (r_.open_.getD (Int.toNat ((r_.open_.length:Int) - (1:Int))) (ET.dft .i64))) (ET.dft .node)).key,(r_.out.getD (Int.toNat (r_.open_.getD (Int.toNat ((r_.open_.length:Int) - (1:Int))) (ET.dft .i64))) (ET.dft .node)).text,(r_.out.getD (Int.toNat (r_.open_.getD (Int.toNat ((r_.open_.length:Int) - (1:Int))) (ET.dft .i64))) (ET.dft .node)).whole,(r_.out.getD (Int.toNat (r_.open_.getD (Int.toNat ((r_.open_.length:Int) - (1:Int))) (ET.dft .i64))) (ET.dft .node)).int,(((r_.out.getD (Int.toNat (r_.open_.getD (Int.toNat ((r_.open_.length:Int) - (1:Int))) (ET.dft .i64))) (ET.dft .node)).kids)+(1:Int))⟩:Eng.Node))++[(⟨n.kind,r_.key,n.text,n.whole,n.int,n.kids⟩:Eng.Node)]),key:=(⟨#[]⟩:BA):json_reader})
 else (
  gd (r_.out.length+([(⟨n.kind,r_.key,n.text,n.whole,n.int,n.kids⟩:Eng.Node)]:List Eng.Node).length≤9223372036854775807∧(r_.out.length+([(⟨n.kind,r_.key,n.text,n.whole,n.int,n.kids⟩:Eng.Node)]:List Eng.Node).length)*64≤140737488355328) <|
  some {r_ with out:=(r_.out++[(⟨n.kind,r_.key,n.text,n.whole,n.int,n.kids⟩:Eng.Node)]),key:=(⟨#[]⟩:BA):json_reader})
def zar_G:Nat→Option CQ:=tblQ []
theorem zar_Gok:∀f C,zar_G f=some C→qAe Tryd.prog f C:=fun f C h=>by cases h
def zar_L:Nat→SubQ:=tblL []
theorem zar_subs:qAo zar_L zar_G 4 4 50 zar_q:=qAk (show qAp zar_L zar_G 4 4 50 [] from tV)
def zar_da:=(qAb (dVC (dCO (dH 0 0))) (qAb (dVC (dCA (qAb dZ (qAb dS (qAb dS (qAb dB (qAb dZ (qAb dZ dNil)))))))) dNil))
def zar_db:=(qAb qDd (qAb (dRow .node 34) zDJP2))
def zar_c:CS:=mkC zar_da zar_db (fun x y=>zar_s (⟨y.1.1,y.1.2.1,y.1.2.2.1,y.2.1,y.2.2.1,y.2.2.2.1,y.1.2.2.2.2.2.2.1,y.1.2.2.2.2.2.2.2.1,y.1.2.2.2.2.2.2.2.2.1⟩:json_reader) (⟨x.2.1.1,x.2.1.2.1,x.2.1.2.2.1,x.2.1.2.2.2.1,x.2.1.2.2.2.2.1,x.2.1.2.2.2.2.2.1⟩:Eng.Node)) (fun x y r=>.tup []) fun x y r=>[.cells 62 [.vS r.text,.vI r.at_,.vI r.state,.own 4,.own 2,.bsl 3,.vS r.key,.vI r.code,.vI r.bad],.dead,.view .i64 y.2.2.1,.bag [.map] 94 r.names,.row .node 34 r.out]
theorem zar_val:qAl Tryd.prog 57 zar_c:=qAm zar_chk 4 zar_Gok 4 (fun x=>Nat.le_of_ble_eq_true rfl) (fun y=>rfl) zar_subs fun x y=>by
 simp only [zar_s,-eq_self,qAd,qAg,obA,obS,slL,slR,qAc];kernel_rfl
def zar_w:CQ:=qBj [(0,some 3,some (.node,34)),(0,some 4,some (.i64,3)),(0,some 5,some ((.bag [.map]),94))] (qCk [true,true,false,true] zar_c)
theorem zar_ok:qAe Tryd.prog 57 zar_w:=qAr zar_val
def zak_b0:IQ:=(.seq (rg 39 [oM 37 t0,oP 38 (.load (some 6) t5),oP 39 (.call 57 [t37,t38])]) (.seq (.regT 0 (.one ⟨(some 40),.mv t0,none⟩ (.one ⟨(some 41),.mv t0,none⟩ (.one ⟨(some 42),.mv t0,none⟩ (.one ⟨(some 43),.nk t42,none⟩ (.one ⟨(some 44),.faddr 4 t43,none⟩ (.one ⟨(some 46),.mv t0,none⟩ (.one ⟨(some 47),.nk t46,none⟩ (.one ⟨(some 48),.faddr 3 t47,none⟩ (.one ⟨(some 54),.mv t0,none⟩ (.one ⟨(some 55),.nk t54,none⟩ (.one ⟨(some 56),.faddr 5 t55,none⟩ (.one ⟨(some 58),.mv t6,none⟩ (.wk ⟨(some 45),.load none t44,none⟩ (.wk ⟨(some 49),.load none t48,none⟩ (.one ⟨(some 50),.len t49,none⟩ (.one ⟨(some 51),.bi .sub t50 (vI 1),none⟩ (.wk ⟨(some 57),.load none t56,none⟩ (.alt ⟨(some 52),.bslice 3 1 1 [.int .i64 0] [(0,t51)],none⟩ (.alt ⟨(some 53),.append 3 1 8 [.int .i64 0] t45 t52,none⟩ (.one ⟨(some 59),.bslice 94 1 1 [.map none] [(0,t58)],none⟩ (.one ⟨(some 60),.append 94 1 8 [.map none] t57 t59,none⟩ (.one ⟨(some 61),.nk t40,none⟩ (.one ⟨(some 62),.faddr 4 t61,none⟩ (.one ⟨none,.store 1 t62 t53,none⟩ (.one ⟨(some 63),.nk t41,none⟩ (.one ⟨(some 64),.faddr 5 t63,none⟩ (.one ⟨none,.store 1 t64 t60,none⟩ .fin)))))))) (.alt ⟨(some 59),.bslice 94 1 1 [.map none] [(0,t58)],none⟩ (.one ⟨(some 53),.append 3 1 8 [.int .i64 0] t45 t52,none⟩ (.one ⟨(some 60),.append 94 1 8 [.map none] t57 t59,none⟩ (.one ⟨(some 61),.nk t40,none⟩ (.one ⟨(some 62),.faddr 4 t61,none⟩ (.one ⟨none,.store 1 t62 t53,none⟩ (.one ⟨(some 63),.nk t41,none⟩ (.one ⟨(some 64),.faddr 5 t63,none⟩ (.one ⟨none,.store 1 t64 t60,none⟩ .fin)))))))) .stop)) (.alt ⟨(some 59),.bslice 94 1 1 [.map none] [(0,t58)],none⟩ (.one ⟨(some 52),.bslice 3 1 1 [.int .i64 0] [(0,t51)],none⟩ (.one ⟨(some 53),.append 3 1 8 [.int .i64 0] t45 t52,none⟩ (.one ⟨(some 60),.append 94 1 8 [.map none] t57 t59,none⟩ (.one ⟨(some 61),.nk t40,none⟩ (.one ⟨(some 62),.faddr 4 t61,none⟩ (.one ⟨none,.store 1 t62 t53,none⟩ (.one ⟨(some 63),.nk t41,none⟩ (.one ⟨(some 64),.faddr 5 t63,none⟩ (.one ⟨none,.store 1 t64 t60,none⟩ .fin))))))))) .stop)))))))))))))))))))) (.seq (rg 4 [oP 4 (.mv vT)]) (.canon [(1000000,some 3,.u8,0),(3000001,none,.u8,0),(1000000,some 4,.u8,0),(3000002,none,.u8,0),(1000000,some 5,.u8,0),(3000003,none,.u8,0)] [4] .ret))))
def zak_q:IQ:=(.seq (rg 4 [oP 4 (.mv vF)]) (.seq (.seq (rg 12 (rF 7 t0 4++[oP 11 (.len t10),oP 12 (.bi .eql t11 (vI 32))])) (.cond t12 (.seq (rg 4 ([oM 13 t0]++rF 14 t0 1++[oP 18 (.call 60 [t13,(vI 11),t17]),oM 4 t18])) (.canon [(1000000,some 3,.u8,0),(3000001,none,.u8,0),(1000000,some 4,.u8,0),(3000002,none,.u8,0),(1000000,some 5,.u8,0),(3000003,none,.u8,0)] [4] .ret)) .skip)) (.seq (rg 0 (rF 19 t0 1++[oP 23 (.bi .add t22 (vI 1))]++rS 24 t19 1 t23)) (.seq (rg 0 [oP 26 (.build [.int .i64 0,.string ⟨#[]⟩,.string ⟨#[]⟩,.bool false,.int .i64 0,.int .i64 0] [(0,1,(vI 6))]),oP 5 (.alloc 34 [.int .i64 0,.string ⟨#[]⟩,.string ⟨#[]⟩,.bool false,.int .i64 0,.int .i64 0]),oN (.store 6 t5 t26)]) (.seq (rg 0 ([oM 27 t0]++rS 28 t27 2 (vI 1))) (.seq (rg 6 [oP 6 (.mv (.v (.map none)))]) (.seq (.seq (rg 31 [oM 30 t1,oP 31 (.bi .eql t30 (vC 123))]) (.cond t31 (.seq (rg 0 [oP 32 (.faddr 0 t5),oN (.store 1 t32 (vI 7))]) (.seq (rg 0 ([oM 33 t0]++rS 34 t33 2 (vI 3))) (rg 6 [oP 36 (.ext .mkmap []),oM 6 t36]))) .skip)) (.canon [(6,none,.mp,0)] [0,5,6] (.sub 0 zak_b0)))))))))
theorem zak_chk:chk Tryd.prog 55 []=some (zak_q.erase,[.tmp 4],65):=by kernel_rfl
def zak_p0 (qF3:BA) (qF4 qF6:Int) (qGa:BA) (qF8 qGb:Int) (qF9:List Eng.Node) (qF5:List Int) (qF7:List (MapC × Unit)) (qGe:Int) (qGh qGf:BA) (qGd:Bool) (qGi qGg:Int) (names:MapC):Option (Bool × BA × Int × Int × BA × Int × Int × (List Eng.Node) × (List Int) × (List (MapC × Unit))) :=
 (zar_s (⟨qF3,qF4,qF6,qF9,qF5,qF7,qGa,qF8,qGb⟩:json_reader) (⟨qGe,qGh,qGf,qGd,qGi,qGg⟩:Eng.Node)).bind fun r12 =>
 gd (qAj ((r12.out.length:Int) - (1:Int))) <|
 gd (qF5.length+([((r12.out.length:Int) - (1:Int))]:List Int).length≤9223372036854775807∧(qF5.length+([((r12.out.length:Int) - (1:Int))]:List Int).length)*8≤140737488355328) <|
 gd (r12.names.length+([(names,())]:List (MapC × Unit)).length≤9223372036854775807∧(r12.names.length+([(names,())]:List (MapC × Unit)).length)*8≤140737488355328) <|
 some (true,r12.text,r12.at_,r12.state,r12.key,r12.code,r12.bad,r12.out,(qF5++[((r12.out.length:Int) - (1:Int))]),(r12.names++[(names,())]))
def zak_s (r_:json_reader) (c:Int):Option (json_reader × Bool) :=
 bif decide ((r_.open_.length:Int)=(32:Int)) then (
  (zaq_s r_ (11:Int) r_.at_).bind fun r11 =>
  some ({r11.1 with out:=r_.out,open_:=r_.open_:json_reader},r11.2))
 else (
  gd (qAj (r_.at_+(1:Int))) <|
  bif decide (c=(123:Int)) then (
   (zak_p0 r_.text (r_.at_+(1:Int)) (3:Int) r_.key r_.code r_.bad r_.out r_.open_ r_.names (7:Int) (⟨#[]⟩:BA) (⟨#[]⟩:BA) false (0:Int) (0:Int) (some [])).bind fun o13 =>
   some ((⟨o13.2.1,o13.2.2.1,o13.2.2.2.1,o13.2.2.2.2.2.2.2.1,o13.2.2.2.2.2.2.2.2.1,o13.2.2.2.2.2.2.2.2.2,o13.2.2.2.2.1,o13.2.2.2.2.2.1,o13.2.2.2.2.2.2.1⟩:json_reader),o13.1))
  else (
   (zak_p0 r_.text (r_.at_+(1:Int)) (1:Int) r_.key r_.code r_.bad r_.out r_.open_ r_.names (6:Int) (⟨#[]⟩:BA) (⟨#[]⟩:BA) false (0:Int) (0:Int) none).bind fun o14 =>
   some ((⟨o14.2.1,o14.2.2.1,o14.2.2.2.1,o14.2.2.2.2.2.2.2.1,o14.2.2.2.2.2.2.2.2.1,o14.2.2.2.2.2.2.2.2.2,o14.2.2.2.2.1,o14.2.2.2.2.2.1,o14.2.2.2.2.2.2.1⟩:json_reader),o14.1)))
def zak_G:Nat→Option CQ:=tblQ [(60,zaq_w),(57,zar_w)]
theorem zak_Gok:∀f C,zak_G f=some C→qAe Tryd.prog f C:=qAi ⟨zaq_ok,zar_ok,tV⟩
def zak_d0:=(dQS (qAb (dSO 0 (dH 0 0)) (qAb (dSO 5 (dH 4 0)) (qAb (dSO 6 (dO 5)) dNil))) (qAb qDd (qAb (dRow .node 34) (qAb (dRow .i64 3) (qAb (dBag [.map] 94) (qAb (dCells 34 (qAb dZ (qAb dS (qAb dS (qAb dB (qAb dZ (qAb dZ dNil))))))) (qAb dMap dNil)))))))
def zak_l0:SubQ:=fun S R kn kx kr=>(Dec.d zak_d0 S).bind fun x=>(zak_p0 x.2.1.1 x.2.1.2.1 x.2.1.2.2.1 x.2.1.2.2.2.2.2.2.1 x.2.1.2.2.2.2.2.2.2.1 x.2.1.2.2.2.2.2.2.2.2.1 x.2.2.1 x.2.2.2.1 x.2.2.2.2.1 x.2.2.2.2.2.1.1 x.2.2.2.2.2.1.2.1 x.2.2.2.2.2.1.2.2.1 x.2.2.2.2.2.1.2.2.2.1 x.2.2.2.2.2.1.2.2.2.2.1 x.2.2.2.2.2.1.2.2.2.2.2.1 x.2.2.2.2.2.2.1).bind fun r=>kr ⟨[sL 4 (.vB r.1)],[],[.cells 62 [.vS r.2.1,.vI r.2.2.1,.vI r.2.2.2.1,.own 4,.own 5,.bsl 6,.vS r.2.2.2.2.1,.vI r.2.2.2.2.2.1,.vI r.2.2.2.2.2.2.1],.dead,.dead,.dead,.row .node 34 r.2.2.2.2.2.2.2.1,.row .i64 3 r.2.2.2.2.2.2.2.2.1,.bag [.map] 94 r.2.2.2.2.2.2.2.2.2]⟩
def zak_L:Nat→SubQ:=tblL [(0,zak_l0)]
theorem zak_p0_eq (qF3:BA) (qF4 qF6:Int) (qGa:BA) (qF8 qGb:Int) (qF9:List Eng.Node) (qF5:List Int) (qF7:List (MapC × Unit)) (qGe:Int) (qGh qGf:BA) (qGd:Bool) (qGi qGg:Int) (names:MapC) (R:Type) (kn:QS→Option R) (kx:Nat→QS→Option R) (kr:QS→Option R) :
  Le ((zak_p0 qF3 qF4 qF6 qGa qF8 qGb qF9 qF5 qF7 qGe qGh qGf qGd qGi qGg names).bind fun r=>kr ⟨[sL 4 (.vB r.1)],[],[.cells 62 [.vS r.2.1,.vI r.2.2.1,.vI r.2.2.2.1,.own 4,.own 5,.bsl 6,.vS r.2.2.2.2.1,.vI r.2.2.2.2.2.1,.vI r.2.2.2.2.2.2.1],.dead,.dead,.dead,.row .node 34 r.2.2.2.2.2.2.2.1,.row .i64 3 r.2.2.2.2.2.2.2.2.1,.bag [.map] 94 r.2.2.2.2.2.2.2.2.2]⟩) (qA4 zak_L zak_G 4 7 65 zak_b0 ⟨[sL 0 (.hd 0 0),sL 5 (.hd 4 0),sL 6 (.own 5)],[],[.cells 62 [.vS qF3,.vI qF4,.vI qF6,.own 1,.own 2,.bsl 3,.vS qGa,.vI qF8,.vI qGb],.row .node 34 qF9,.row .i64 3 qF5,.bag [.map] 94 qF7,.cells 34 [.vI qGe,.vS qGh,.vS qGf,.vB qGd,.vI qGi,.vI qGg],.map names]⟩ kn kx kr):=by
 refine Le.trans (b :=
  (zar_s (⟨qF3,qF4,qF6,qF9,qF5,qF7,qGa,qF8,qGb⟩:json_reader) (⟨qGe,qGh,qGf,qGd,qGi,qGg⟩:Eng.Node)).bind fun r12 =>
  gd (qAj ((r12.out.length:Int) - (1:Int))) <|
  all2 (
   all2 (
    gd (qF5.length+([((r12.out.length:Int) - (1:Int))]:List Int).length≤9223372036854775807∧(qF5.length+([((r12.out.length:Int) - (1:Int))]:List Int).length)*8≤140737488355328) <|
    gd (r12.names.length+([(names,())]:List (MapC × Unit)).length≤9223372036854775807∧(r12.names.length+([(names,())]:List (MapC × Unit)).length)*8≤140737488355328) <|
    (fun r=>kr ⟨[sL 4 (.vB r.1)],[],[.cells 62 [.vS r.2.1,.vI r.2.2.1,.vI r.2.2.2.1,.own 4,.own 5,.bsl 6,.vS r.2.2.2.2.1,.vI r.2.2.2.2.2.1,.vI r.2.2.2.2.2.2.1],.dead,.dead,.dead,.row .node 34 r.2.2.2.2.2.2.2.1,.row .i64 3 r.2.2.2.2.2.2.2.2.1,.bag [.map] 94 r.2.2.2.2.2.2.2.2.2]⟩) (true,r12.text,r12.at_,r12.state,r12.key,r12.code,r12.bad,r12.out,(qF5++[((r12.out.length:Int) - (1:Int))]),(r12.names++[(names,())]))) (
    gd (qF5.length+([((r12.out.length:Int) - (1:Int))]:List Int).length≤9223372036854775807∧(qF5.length+([((r12.out.length:Int) - (1:Int))]:List Int).length)*8≤140737488355328) <|
    gd (r12.names.length+([(names,())]:List (MapC × Unit)).length≤9223372036854775807∧(r12.names.length+([(names,())]:List (MapC × Unit)).length)*8≤140737488355328) <|
    (fun r=>kr ⟨[sL 4 (.vB r.1)],[],[.cells 62 [.vS r.2.1,.vI r.2.2.1,.vI r.2.2.2.1,.own 4,.own 5,.bsl 6,.vS r.2.2.2.2.1,.vI r.2.2.2.2.2.1,.vI r.2.2.2.2.2.2.1],.dead,.dead,.dead,.row .node 34 r.2.2.2.2.2.2.2.1,.row .i64 3 r.2.2.2.2.2.2.2.2.1,.bag [.map] 94 r.2.2.2.2.2.2.2.2.2]⟩) (true,r12.text,r12.at_,r12.state,r12.key,r12.code,r12.bad,r12.out,(qF5++[((r12.out.length:Int) - (1:Int))]),(r12.names++[(names,())])))) (
   gd (qF5.length+([((r12.out.length:Int) - (1:Int))]:List Int).length≤9223372036854775807∧(qF5.length+([((r12.out.length:Int) - (1:Int))]:List Int).length)*8≤140737488355328) <|
   gd (r12.names.length+([(names,())]:List (MapC × Unit)).length≤9223372036854775807∧(r12.names.length+([(names,())]:List (MapC × Unit)).length)*8≤140737488355328) <|
   (fun r=>kr ⟨[sL 4 (.vB r.1)],[],[.cells 62 [.vS r.2.1,.vI r.2.2.1,.vI r.2.2.2.1,.own 4,.own 5,.bsl 6,.vS r.2.2.2.2.1,.vI r.2.2.2.2.2.1,.vI r.2.2.2.2.2.2.1],.dead,.dead,.dead,.row .node 34 r.2.2.2.2.2.2.2.1,.row .i64 3 r.2.2.2.2.2.2.2.2.1,.bag [.map] 94 r.2.2.2.2.2.2.2.2.2]⟩) (true,r12.text,r12.at_,r12.state,r12.key,r12.code,r12.bad,r12.out,(qF5++[((r12.out.length:Int) - (1:Int))]),(r12.names++[(names,())])))) ?_ (Le.of_eq (by kernel_rfl))
 unfold zak_p0;repeat' (first | exact Le.refl _ | refine Le.gdb ?_ | refine Le.condb ?_ ?_ | refine Le.all2b ?_ ?_ | refine Le.bindb (fun _=>?_) | refine Le.elimb (fun _=>?_) (fun _=>?_))
theorem zak_sub0:qBr zak_L zak_G 4 7 65 0 zak_b0:=sub_le zak_d0 (fun x R kn kx kr=>(zak_p0 x.2.1.1 x.2.1.2.1 x.2.1.2.2.1 x.2.1.2.2.2.2.2.2.1 x.2.1.2.2.2.2.2.2.2.1 x.2.1.2.2.2.2.2.2.2.2.1 x.2.2.1 x.2.2.2.1 x.2.2.2.2.1 x.2.2.2.2.2.1.1 x.2.2.2.2.2.1.2.1 x.2.2.2.2.2.1.2.2.1 x.2.2.2.2.2.1.2.2.2.1 x.2.2.2.2.2.1.2.2.2.2.1 x.2.2.2.2.2.1.2.2.2.2.2.1 x.2.2.2.2.2.2.1).bind fun r=>kr ⟨[sL 4 (.vB r.1)],[],[.cells 62 [.vS r.2.1,.vI r.2.2.1,.vI r.2.2.2.1,.own 4,.own 5,.bsl 6,.vS r.2.2.2.2.1,.vI r.2.2.2.2.2.1,.vI r.2.2.2.2.2.2.1],.dead,.dead,.dead,.row .node 34 r.2.2.2.2.2.2.2.1,.row .i64 3 r.2.2.2.2.2.2.2.2.1,.bag [.map] 94 r.2.2.2.2.2.2.2.2.2]⟩) (by kernel_rfl) fun x R kn kx kr=>zak_p0_eq x.2.1.1 x.2.1.2.1 x.2.1.2.2.1 x.2.1.2.2.2.2.2.2.1 x.2.1.2.2.2.2.2.2.2.1 x.2.1.2.2.2.2.2.2.2.2.1 x.2.2.1 x.2.2.2.1 x.2.2.2.2.1 x.2.2.2.2.2.1.1 x.2.2.2.2.2.1.2.1 x.2.2.2.2.2.1.2.2.1 x.2.2.2.2.2.1.2.2.2.1 x.2.2.2.2.2.1.2.2.2.2.1 x.2.2.2.2.2.1.2.2.2.2.2.1 x.2.2.2.2.2.2.1 R kn kx kr
theorem zak_subs:qAo zak_L zak_G 4 7 65 zak_q:=qAk (show qAp zak_L zak_G 4 7 65 [(0,zak_b0)] from ⟨zak_sub0,tV⟩)
def zDJP7:=(qAb (dVC (dCO (dI .u8))) dNil)
def zak_da:=(qAb (dVC (dCO (dH 0 0))) zDJP7)
def zak_db:=(qAb qDd (qAb (dRow .node 34) zDJP3))
def zak_c:CS:=mkC zak_da zak_db (fun x y=>zak_s (⟨y.1.1,y.1.2.1,y.1.2.2.1,y.2.1,y.2.2.1,y.2.2.2.1,y.1.2.2.2.2.2.2.1,y.1.2.2.2.2.2.2.2.1,y.1.2.2.2.2.2.2.2.2.1⟩:json_reader) x.2.1) (fun x y r=>.c (.o (.vB r.2))) fun x y r=>[.cells 62 [.vS r.1.text,.vI r.1.at_,.vI r.1.state,.own 4,.own 5,.bsl 6,.vS r.1.key,.vI r.1.code,.vI r.1.bad],.dead,.dead,.dead,.row .node 34 r.1.out,.row .i64 3 r.1.open_,.bag [.map] 94 r.1.names]
theorem zak_val:qAl Tryd.prog 55 zak_c:=qAm zak_chk 7 zak_Gok 4 (fun x=>Nat.le_of_ble_eq_true rfl) (fun y=>rfl) zak_subs fun x y=>by
 simp only [zak_s,-eq_self,qAd,qAg,obA,obS,slL,slR,qAc];kernel_rfl
def zak_w:CQ:=qBj [(0,some 3,some (.node,34)),(0,some 4,some (.i64,3)),(0,some 5,some ((.bag [.map]),94))] (qCk [true,true,true,true] zak_c)
theorem zak_ok:qAe Tryd.prog 55 zak_w:=qAr zak_val
def zax_q:IQ:=(.seq (rg 2 [oP 2 (.mv vF)]) (.seq (rg 2 ([oM 3 t0]++rF 4 t0 1++[oP 8 (.call 60 [t3,(vI 31),t7]),oM 2 t8])) (.cn [2] .ret)))
theorem zax_chk:chk Tryd.prog 44 []=some (zax_q.erase,[.tmp 2],9):=by kernel_rfl
def zax_s (r_:json_reader):Option (json_reader × Bool) :=
 (zaq_s r_ (31:Int) r_.at_).bind fun r2 =>
 some ({r2.1 with out:=r_.out,open_:=r_.open_:json_reader},r2.2)
def zax_G:Nat→Option CQ:=tblQ [(60,zaq_w)]
theorem zax_Gok:∀f C,zax_G f=some C→qAe Tryd.prog f C:=qAi ⟨zaq_ok,tV⟩
def zax_L:Nat→SubQ:=tblL []
theorem zax_subs:qAo zax_L zax_G 4 3 9 zax_q:=qAk (show qAp zax_L zax_G 4 3 9 [] from tV)
def zax_da:=(qAb (dVC (dCO (dH 0 0))) dNil)
def zax_db:=(qAb qDd (qAb (qA9 .node) zDJP2))
def zax_c:CS:=mkC zax_da zax_db (fun x y=>zax_s (⟨y.1.1,y.1.2.1,y.1.2.2.1,y.2.1,y.2.2.1,y.2.2.2.1,y.1.2.2.2.2.2.2.1,y.1.2.2.2.2.2.2.2.1,y.1.2.2.2.2.2.2.2.2.1⟩:json_reader)) (fun x y r=>.c (.o (.vB r.2))) fun x y r=>[.cells 62 [.vS r.1.text,.vI r.1.at_,.vI r.1.state,.own 1,.own 2,.bsl 3,.vS r.1.key,.vI r.1.code,.vI r.1.bad],.view .node y.2.1,.view .i64 y.2.2.1,.bag [.map] 94 r.1.names]
theorem zax_val:qAl Tryd.prog 44 zax_c:=qAm zax_chk 3 zax_Gok 4 (fun x=>Nat.le_of_ble_eq_true rfl) (fun y=>rfl) zax_subs fun x y=>by
 simp only [zax_s,-eq_self,qAd,qAg,obA,obS,slL,slR,qAc];kernel_rfl
def zax_w:CQ:=qBj [(0,some 3,some (.node,34)),(0,some 4,some (.i64,3)),(0,some 5,some ((.bag [.map]),94))] (qCk [true,false,false,true] zax_c)
theorem zax_ok:qAe Tryd.prog 44 zax_w:=qAr zax_val
def zaj_q:IQ:=(.seq (rg 3 [oP 2 (.mv (.v (.int .i32 0))),oP 3 (.mv vF)]) (.seq (.block 0 (.seq (rg 4 [oM 5 t0,oP 6 (.bi .geq t5 (vC 48)),oM 7 t6,oF 8 (.mv t0) 7,oF 9 (.bi .leq t8 (vC 57)) 7,oP 10 (.pick t7 t9 vF),oM 4 t10]) (.cond t4 (.seq (rg 3 [oM 11 t0,oP 12 (.bi .sub t11 (vC 48)),oP 13 (.conv false .i32 t12),oM 2 t13,oP 3 (.mv vT)]) (.cn [2,3] .ret)) (.seq (rg 14 [oM 15 t0,oP 16 (.bi .geq t15 (vC 97)),oM 17 t16,oF 18 (.mv t0) 17,oF 19 (.bi .leq t18 (vC 102)) 17,oP 20 (.pick t17 t19 vF),oM 14 t20]) (.cond t14 (.seq (rg 3 [oM 21 t0,oP 22 (.bi .sub t21 (vC 97)),oP 23 (.conv false .i32 t22),oP 24 (.bi .add t23 (.v (.int .i32 10))),oM 2 t24,oP 3 (.mv vT)]) (.cn [2,3] .ret)) (.seq (rg 25 [oM 26 t0,oP 27 (.bi .geq t26 (vC 65)),oM 28 t27,oF 29 (.mv t0) 28,oF 30 (.bi .leq t29 (vC 70)) 28,oP 31 (.pick t28 t30 vF),oM 25 t31]) (.cond t25 (.seq (rg 3 [oM 32 t0,oP 33 (.bi .sub t32 (vC 65)),oP 34 (.conv false .i32 t33),oP 35 (.bi .add t34 (.v (.int .i32 10))),oM 2 t35,oP 3 (.mv vT)]) (.cn [2,3] .ret)) .skip))))))) (.seq (rg 3 [oP 2 (.mv (.v (.int .i32 0))),oP 3 (.mv vF)]) (.cn [2,3] .ret))))
theorem zaj_chk:chk Tryd.prog 104 []=some (zaj_q.erase,[.tmp 2,.tmp 3],36):=by kernel_rfl
def zaj_s (c:Int):Option (Int × Bool) :=
 bif ((decide ((48:Int)≤c)) && (decide (c≤(57:Int)))) then (
  gd (qCe ((c - (48:Int)) % 256)) <|
  some (((c - (48:Int)) % 256),true))
 else (
  bif ((decide ((97:Int)≤c)) && (decide (c≤(102:Int)))) then (
   gd (qCe ((c - (97:Int)) % 256)) <|
   gd (qCe (((c - (97:Int)) % 256)+(10:Int))) <|
   some ((((c - (97:Int)) % 256)+(10:Int)),true))
  else (
   bif ((decide ((65:Int)≤c)) && (decide (c≤(70:Int)))) then (
    gd (qCe ((c - (65:Int)) % 256)) <|
    gd (qCe (((c - (65:Int)) % 256)+(10:Int))) <|
    some ((((c - (65:Int)) % 256)+(10:Int)),true))
   else (
    some ((0:Int),false))))
def zaj_G:Nat→Option CQ:=tblQ []
theorem zaj_Gok:∀f C,zaj_G f=some C→qAe Tryd.prog f C:=fun f C h=>by cases h
def zaj_L:Nat→SubQ:=tblL []
theorem zaj_subs:qAo zaj_L zaj_G 0 4 36 zaj_q:=qAk (show qAp zaj_L zaj_G 0 4 36 [] from tV)
def zaj_da:=(qAb (dVC (dCO (dI .u8))) dNil)
def zaj_db:=(dNil:Dec Unit (List SB))
def zaj_c:CS:=mkC zaj_da zaj_db (fun x y=>zaj_s x.1) (fun x y r=>.tup [.o (.val (.int .i32 r.1)),.o (.vB r.2)]) fun x y r=>[]
theorem zaj_val:qAl Tryd.prog 104 zaj_c:=qAm zaj_chk 4 zaj_Gok 0 (fun x=>Nat.le_of_ble_eq_true rfl) (fun y=>rfl) zaj_subs fun x y=>by
 simp only [zaj_s,-eq_self,qAd,qAg,obA,obS,slL,slR,qAc];kernel_rfl
def zaj_w:CQ:=qC3 [] zaj_c
theorem zaj_ok:qAe Tryd.prog 104 zaj_w:=qA2 zaj_val
def zbc_b1:IQ:=(.join [] [0,1,2,8,10,12] (.cond t40 (.seq (rg 7 [oM 75 t0,oM 76 t1,oP 77 (.call 60 [t75,(vI 33),t76]),oP 6 (.mv (.v (.int .i32 0))),oM 7 t77]) (.cn [6,7] .ret)) .skip))
def zbc_b0:IQ:=(.loop [0,1,2,8,12] (.seq (rg 13 [oP 13 (.bi .lss t12 (vI 4))]) (.seq (.cond t13 .skip (.cn [8] (.exit 0))) (.seq (.block 1 (.seq (rg 9 [oM 14 t12,oM 9 t14]) (.seq (.seq (.reg 24 (some [0,1,2,3,4,5,6,7,8,9]) (rF 15 t0 1++rF 19 t0 0++[oP 23 (.lenS t22),oP 24 (.bi .eql t18 t23)])) (.cond t24 (.seq (rg 7 [oM 25 t0,oP 26 (.call 44 [t25]),oP 6 (.mv (.v (.int .i32 0))),oM 7 t26]) (.cn [6,7] .ret)) .skip)) (.seq (.reg 11 (some [0,1,2,3,4,5,6,7,8,9,10,11,12,13,14]) (rF 28 t0 0++rF 32 t0 1++[oP 36 (.index t31 t35),oP 37 (.call 104 [t36]),oM 27 t37,oP 38 (.extract t27 0),oP 39 (.extract t27 1),oM 10 t38,oM 11 t39])) (.seq (.block 2 (.seq (.seq (rg 40 [oM 41 t11,oP 42 (.un .not t41),oM 40 t42]) (.cond t40 .skip (.seq (rg 40 [oM 43 t9,oP 44 (.bi .eql t43 (vI 0)),oM 45 t44,oF 46 (.mv t2) 45,oP 47 (.pick t45 t46 vF),oM 48 t47,oF 49 (.mv t10) 48,oF 50 (.bi .neq t49 (.v (.int .i32 13))) 48,oP 51 (.pick t48 t50 vF),oM 40 t51]) (.cond t40 .skip (.seq (rg 40 [oM 52 t9,oP 53 (.bi .eql t52 (vI 1)),oM 54 t53,oF 55 (.mv t2) 54,oP 56 (.pick t54 t55 vF),oM 57 t56,oF 58 (.mv t10) 57,oF 59 (.bi .lss t58 (.v (.int .i32 12))) 57,oP 60 (.pick t57 t59 vF),oM 40 t60]) (.cond t40 .skip (rg 40 [oM 61 t9,oP 62 (.bi .eql t61 (vI 1)),oM 63 t62,oF 64 (.mv t2) 63,oF 65 (.un .not t64) 63,oP 66 (.pick t63 t65 vF),oM 67 t66,oF 68 (.mv t8) 67,oF 69 (.bi .eql t68 (.v (.int .i32 13))) 67,oP 70 (.pick t67 t69 vF),oM 71 t70,oF 72 (.mv t10) 71,oF 73 (.bi .geq t72 (.v (.int .i32 12))) 71,oP 74 (.pick t71 t73 vF),oM 40 t74]))))))) (.cn [0,1,2,8,10,12,40] (.sub 1 zbc_b1)))) (.seq (rg 8 [oM 78 t8,oP 79 (.bi .shl t78 (.v (.int .u64 4))),oM 80 t10,oP 81 (.bi .or t79 t80),oM 8 t81]) (rg 0 (rF 82 t0 1++[oP 86 (.bi .add t85 (vI 1))]++rS 87 t82 1 t86)))))))) (rg 12 [oP 89 (.bi .add t12 (vI 1)),oM 12 t89])))))
def zbc_q:IQ:=(.seq (rg 7 [oP 6 (.mv (.v (.int .i32 0))),oP 7 (.mv vF)]) (.seq (rg 8 [oP 8 (.mv (.v (.int .i32 0)))]) (.seq (.seq (rg 12 [oP 12 (.mv (vI 0))]) (.block 0 (.cn [0,1,2,8,12] (.sub 0 zbc_b0)))) (.seq (rg 7 [oM 90 t8,oM 6 t90,oP 7 (.mv vT)]) (.cn [6,7] .ret)))))
theorem zbc_chk:chk Tryd.prog 92 []=some (zbc_q.erase,[.tmp 6,.tmp 7],91):=by kernel_rfl
def zbc_p1 (from_:Int) (x40_:Bool) (qF3:BA) (qF4 qF6:Int) (qGa:BA) (qF8 qGb:Int) (qF9:List Eng.Node) (qF5:List Int) (qF7:List (MapC × Unit)):Option ((Int × Bool × BA × Int × Int × BA × Int × Int × (List (MapC × Unit))) ⊕ Unit) :=
 bif x40_ then (
  (zaq_s (⟨qF3,qF4,qF6,qF9,qF5,qF7,qGa,qF8,qGb⟩:json_reader) (33:Int) from_).bind fun r23 =>
  some (.inl ((0:Int),r23.2,r23.1.text,r23.1.at_,r23.1.state,r23.1.key,r23.1.code,r23.1.bad,r23.1.names)))
 else (
  some (.inr ()))
def qBv (from_:Int) (low:Bool) (u x12_:Int) (qF3:BA) (qF4 qF6:Int) (qGa:BA) (qF8 qGb:Int) (qF9:List Eng.Node) (qF5:List Int) (qF7:List (MapC × Unit)):Option ((Int × Int × Int) ⊕ ((Int × Bool × BA × Int × Int × BA × Int × Int × (List (MapC × Unit))) ⊕ (Int × Int))) :=
 bif decide (x12_<(4:Int)) then (
  bif decide (qF4=(qF3.size:Int)) then (
   (zax_s (⟨qF3,qF4,qF6,qF9,qF5,qF7,qGa,qF8,qGb⟩:json_reader)).bind fun r21 =>
   some (.inr (.inl ((0:Int),r21.2,r21.1.text,r21.1.at_,r21.1.state,r21.1.key,r21.1.code,r21.1.bad,r21.1.names))))
  else (
   gd (0≤qF4∧qF4<qF3.size) <|
   (zaj_s (bAt qF3 qF4)).bind fun r22 =>
   bif (!r22.2) then (
    (zbc_p1 from_ (!r22.2) qF3 qF4 qF6 qGa qF8 qGb qF9 qF5 qF7).bind fun o24=>(Sum.elim (fun (o24_0:Int × Bool × BA × Int × Int × BA × Int × Int × (List (MapC × Unit))) =>
     some (.inr (.inl (o24_0.1,o24_0.2.1,o24_0.2.2.1,o24_0.2.2.2.1,o24_0.2.2.2.2.1,o24_0.2.2.2.2.2.1,o24_0.2.2.2.2.2.2.1,o24_0.2.2.2.2.2.2.2.1,o24_0.2.2.2.2.2.2.2.2)))) (fun (o24_1:Unit) =>
     gd (0≤(4:Int)) <|
     gd (qCe (u*16)) <|
     gd (qAj (qF4+(1:Int))) <|
     gd (qAj (x12_+(1:Int))) <|
     some (.inl ((qBl .i32 (u*16) r22.1),(x12_+(1:Int)),(qF4+(1:Int)))))) o24)
   else (
    bif (((decide (x12_=(0:Int))) && low) && (!decide (r22.1=(13:Int)))) then (
     (zbc_p1 from_ (((decide (x12_=(0:Int))) && low) && (!decide (r22.1=(13:Int)))) qF3 qF4 qF6 qGa qF8 qGb qF9 qF5 qF7).bind fun o25=>(Sum.elim (fun (o25_0:Int × Bool × BA × Int × Int × BA × Int × Int × (List (MapC × Unit))) =>
      some (.inr (.inl (o25_0.1,o25_0.2.1,o25_0.2.2.1,o25_0.2.2.2.1,o25_0.2.2.2.2.1,o25_0.2.2.2.2.2.1,o25_0.2.2.2.2.2.2.1,o25_0.2.2.2.2.2.2.2.1,o25_0.2.2.2.2.2.2.2.2)))) (fun (o25_1:Unit) =>
      gd (0≤(4:Int)) <|
      gd (qCe (u*16)) <|
      gd (qAj (qF4+(1:Int))) <|
      gd (qAj (x12_+(1:Int))) <|
      some (.inl ((qBl .i32 (u*16) r22.1),(x12_+(1:Int)),(qF4+(1:Int)))))) o25)
    else (
     bif (((decide (x12_=(1:Int))) && low) && (decide (r22.1<(12:Int)))) then (
      (zbc_p1 from_ (((decide (x12_=(1:Int))) && low) && (decide (r22.1<(12:Int)))) qF3 qF4 qF6 qGa qF8 qGb qF9 qF5 qF7).bind fun o26=>(Sum.elim (fun (o26_0:Int × Bool × BA × Int × Int × BA × Int × Int × (List (MapC × Unit))) =>
       some (.inr (.inl (o26_0.1,o26_0.2.1,o26_0.2.2.1,o26_0.2.2.2.1,o26_0.2.2.2.2.1,o26_0.2.2.2.2.2.1,o26_0.2.2.2.2.2.2.1,o26_0.2.2.2.2.2.2.2.1,o26_0.2.2.2.2.2.2.2.2)))) (fun (o26_1:Unit) =>
       gd (0≤(4:Int)) <|
       gd (qCe (u*16)) <|
       gd (qAj (qF4+(1:Int))) <|
       gd (qAj (x12_+(1:Int))) <|
       some (.inl ((qBl .i32 (u*16) r22.1),(x12_+(1:Int)),(qF4+(1:Int)))))) o26)
     else (
      (zbc_p1 from_ ((((decide (x12_=(1:Int))) && (!low)) && (decide (u=(13:Int)))) && (decide ((12:Int)≤r22.1))) qF3 qF4 qF6 qGa qF8 qGb qF9 qF5 qF7).bind fun o27=>(Sum.elim (fun (o27_0:Int × Bool × BA × Int × Int × BA × Int × Int × (List (MapC × Unit))) =>
       some (.inr (.inl (o27_0.1,o27_0.2.1,o27_0.2.2.1,o27_0.2.2.2.1,o27_0.2.2.2.2.1,o27_0.2.2.2.2.2.1,o27_0.2.2.2.2.2.2.1,o27_0.2.2.2.2.2.2.2.1,o27_0.2.2.2.2.2.2.2.2)))) (fun (o27_1:Unit) =>
       gd (0≤(4:Int)) <|
       gd (qCe (u*16)) <|
       gd (qAj (qF4+(1:Int))) <|
       gd (qAj (x12_+(1:Int))) <|
       some (.inl ((qBl .i32 (u*16) r22.1),(x12_+(1:Int)),(qF4+(1:Int)))))) o27)))))
 else (
  some (.inr (.inr (u,qF4))))
def zbc_p0 (from_:Int) (low:Bool) (u x12_:Int) (qF3:BA) (qF4 qF6:Int) (qGa:BA) (qF8 qGb:Int) (qF9:List Eng.Node) (qF5:List Int) (qF7:List (MapC × Unit)):Option ((Int × Bool × BA × Int × Int × BA × Int × Int × (List (MapC × Unit))) ⊕ (Int × Int)) :=
 qBh (fun x:(Int × Int × Int)=>qBv from_ low x.1 x.2.1 qF3 x.2.2 qF6 qGa qF8 qGb qF9 qF5 qF7) (u,x12_,qF4)
def zbc_s (r_:json_reader) (from_:Int) (low:Bool):Option (json_reader × Int × Bool) :=
 (zbc_p0 from_ low (0:Int) (0:Int) r_.text r_.at_ r_.state r_.key r_.code r_.bad r_.out r_.open_ r_.names).bind fun o28=>(Sum.elim (fun (o28_0:Int × Bool × BA × Int × Int × BA × Int × Int × (List (MapC × Unit))) =>
  some ((⟨o28_0.2.2.1,o28_0.2.2.2.1,o28_0.2.2.2.2.1,r_.out,r_.open_,o28_0.2.2.2.2.2.2.2.2,o28_0.2.2.2.2.2.1,o28_0.2.2.2.2.2.2.1,o28_0.2.2.2.2.2.2.2.1⟩:json_reader),o28_0.1,o28_0.2.1)) (fun (o28_1:Int × Int) =>
  some ({r_ with at_:=o28_1.2:json_reader},o28_1.1,true))) o28
def zbc_G:Nat→Option CQ:=tblQ [(44,zax_w),(104,zaj_w),(60,zaq_w)]
theorem zbc_Gok:∀f C,zbc_G f=some C→qAe Tryd.prog f C:=qAi ⟨zax_ok,zaj_ok,zaq_ok,tV⟩
def zbc_d1:=(dQS (qAb (dSO 0 (dH 0 0)) (qAb (dSO 1 dZ) (qAb (dSO 2 dB) (qAb (dSO 8 (dI .i32)) (qAb (dSO 10 (dI .i32)) (qAb (dSO 12 dZ) (qAb (dSO 40 dB) dNil))))))) zDJP5)
def zbc_l1:SubQ:=mkL zbc_d1 (fun x=>zbc_p1 x.1.2.1 x.1.2.2.2.2.2.2.1 x.2.1.1 x.2.1.2.1 x.2.1.2.2.1 x.2.1.2.2.2.2.2.2.1 x.2.1.2.2.2.2.2.2.2.1 x.2.1.2.2.2.2.2.2.2.2.1 x.2.2.1 x.2.2.2.1 x.2.2.2.2.1) fun x r R kn kx kr=>(Sum.elim (fun (r_0:Int × Bool × BA × Int × Int × BA × Int × Int × (List (MapC × Unit)))=>kr ⟨[(6,[],.c (.o (.val (.int .i32 r_0.1)))),sL 7 (.vB r_0.2.1)],[],[.cells 62 [.vS r_0.2.2.1,.vI r_0.2.2.2.1,.vI r_0.2.2.2.2.1,.own 1,.own 2,.bsl 3,.vS r_0.2.2.2.2.2.1,.vI r_0.2.2.2.2.2.2.1,.vI r_0.2.2.2.2.2.2.2.1],.view .node x.2.2.1,.view .i64 x.2.2.2.1,.bag [.map] 94 r_0.2.2.2.2.2.2.2.2]⟩) (fun (r_1:Unit)=>kn ⟨[sL 0 (.hd 0 0),sL 1 (.vI x.1.2.1),sL 2 (.vB x.1.2.2.1),(8,[],.c (.o (.val (.int .i32 x.1.2.2.2.1)))),(10,[],.c (.o (.val (.int .i32 x.1.2.2.2.2.1)))),sL 12 (.vI x.1.2.2.2.2.2.1)],[],[.cells 62 [.vS x.2.1.1,.vI x.2.1.2.1,.vI x.2.1.2.2.1,.own 1,.own 2,.bsl 3,.vS x.2.1.2.2.2.2.2.2.1,.vI x.2.1.2.2.2.2.2.2.2.1,.vI x.2.1.2.2.2.2.2.2.2.2.1],.view .node x.2.2.1,.view .i64 x.2.2.2.1,.bag [.map] 94 x.2.2.2.2.1]⟩)) r
def zbc_d0:=(dQS (qAb (dSO 0 (dH 0 0)) (qAb (dSO 1 dZ) (qAb (dSO 2 dB) (qAb (dSO 8 (dI .i32)) (qAb (dSO 12 dZ) dNil))))) zDJP5)
def zbc_l0:SubQ:=mkL zbc_d0 (fun x=>zbc_p0 x.1.2.1 x.1.2.2.1 x.1.2.2.2.1 x.1.2.2.2.2.1 x.2.1.1 x.2.1.2.1 x.2.1.2.2.1 x.2.1.2.2.2.2.2.2.1 x.2.1.2.2.2.2.2.2.2.1 x.2.1.2.2.2.2.2.2.2.2.1 x.2.2.1 x.2.2.2.1 x.2.2.2.2.1) fun x r R kn kx kr=>(Sum.elim (fun (r_0:Int × Bool × BA × Int × Int × BA × Int × Int × (List (MapC × Unit)))=>kr ⟨[(6,[],.c (.o (.val (.int .i32 r_0.1)))),sL 7 (.vB r_0.2.1)],[],[.cells 62 [.vS r_0.2.2.1,.vI r_0.2.2.2.1,.vI r_0.2.2.2.2.1,.own 1,.own 2,.bsl 3,.vS r_0.2.2.2.2.2.1,.vI r_0.2.2.2.2.2.2.1,.vI r_0.2.2.2.2.2.2.2.1],.view .node x.2.2.1,.view .i64 x.2.2.2.1,.bag [.map] 94 r_0.2.2.2.2.2.2.2.2]⟩) (fun (r_1:Int × Int)=>kx 0 ⟨[(8,[],.c (.o (.val (.int .i32 r_1.1))))],[],[.cells 62 [.vS x.2.1.1,.vI r_1.2,.vI x.2.1.2.2.1,.own 1,.own 2,.bsl 3,.vS x.2.1.2.2.2.2.2.2.1,.vI x.2.1.2.2.2.2.2.2.2.1,.vI x.2.1.2.2.2.2.2.2.2.2.1],.view .node x.2.2.1,.view .i64 x.2.2.2.1,.bag [.map] 94 x.2.2.2.2.1]⟩)) r
def zbc_L:Nat→SubQ:=tblL [(1,zbc_l1),(0,zbc_l0)]
theorem zbc_sub1:qBr zbc_L zbc_G 4 13 91 1 zbc_b1:=qAu (show zbc_L 1=zbc_l1 from by kernel_rfl) fun x R kn kx kr=>by
 simp only [zbc_p1,-eq_self,qAd,qAg,obA,obS,slL,slR,qAc];kernel_rfl
theorem zbc_sub0:qBr zbc_L zbc_G 4 13 91 0 zbc_b0:=qAu (show zbc_L 0=zbc_l0 from by kernel_rfl) fun x R kn kx kr=>qAs (step:=fun y=>qBv x.1.2.1 x.1.2.2.1 y.1 y.2.1 x.2.1.1 y.2.2 x.2.1.2.2.1 x.2.1.2.2.2.2.2.2.1 x.2.1.2.2.2.2.2.2.2.1 x.2.1.2.2.2.2.2.2.2.2.1 x.2.2.1 x.2.2.2.1 x.2.2.2.2.1) (enc:=fun (y:Int × Int × Int)=>zbc_d0.e ((x.1.1,x.1.2.1,x.1.2.2.1,y.1,y.2.1,x.1.2.2.2.2.2),((x.2.1.1,y.2.2,x.2.1.2.2),x.2.2))) (fun y=>by kernel_rfl) (fun y ki=>by simp only [qBv,-eq_self,qAd,qAg,obA,obS,slL,slR,qAc]; kernel_rfl) (x.1.2.2.2.1,x.1.2.2.2.2.1,x.2.1.2.1)
theorem zbc_subs:qAo zbc_L zbc_G 4 13 91 zbc_q:=qAk (show qAp zbc_L zbc_G 4 13 91 [(0,zbc_b0),(1,zbc_b1)] from ⟨zbc_sub0,zbc_sub1,tV⟩)
def zbc_da:=(qAb (dVC (dCO (dH 0 0))) (qAb (dVC (dCO dZ)) (qAb (dVC (dCO dB)) dNil)))
def zbc_db:=(qAb qDd (qAb (qA9 .node) zDJP2))
def zbc_c:CS:=mkC zbc_da zbc_db (fun x y=>zbc_s (⟨y.1.1,y.1.2.1,y.1.2.2.1,y.2.1,y.2.2.1,y.2.2.2.1,y.1.2.2.2.2.2.2.1,y.1.2.2.2.2.2.2.2.1,y.1.2.2.2.2.2.2.2.2.1⟩:json_reader) x.2.1 x.2.2.1) (fun x y r=>.tup [.o (.val (.int .i32 r.2.1)),.o (.vB r.2.2)]) fun x y r=>[.cells 62 [.vS r.1.text,.vI r.1.at_,.vI r.1.state,.own 1,.own 2,.bsl 3,.vS r.1.key,.vI r.1.code,.vI r.1.bad],.view .node y.2.1,.view .i64 y.2.2.1,.bag [.map] 94 r.1.names]
theorem zbc_val:qAl Tryd.prog 92 zbc_c:=qAm zbc_chk 13 zbc_Gok 4 (fun x=>Nat.le_of_ble_eq_true rfl) (fun y=>rfl) zbc_subs fun x y=>by
 simp only [zbc_s,-eq_self,qAd,qAg,obA,obS,slL,slR,qAc];kernel_rfl
def zbc_w:CQ:=qBj [(0,some 3,some (.node,34)),(0,some 4,some (.i64,3)),(0,some 5,some ((.bag [.map]),94))] (qCk [true,false,false,true] zbc_c)
theorem zbc_ok:qAe Tryd.prog 92 zbc_w:=qAr zbc_val
def zay_b0:IQ:=(.loop [0,1,6,30,31,32] (.seq (rg 33 [oP 33 (.bi .lss t32 t31)]) (.seq (.cond t33 .skip (.cn [0,1,6] (.exit 0))) (.seq (.block 1 (.seq (rg 9 [oP 34 (.iaddr 1 t30 t32),oP 35 (.load none t34),oM 9 t35]) (.seq (.seq (.reg 45 (some [0,1,2,3,4,5,6,7,8,9]) (rF 36 t0 1++rF 40 t0 0++[oP 44 (.lenS t43),oP 45 (.bi .eql t39 t44)])) (.cond t45 (.seq (rg 5 [oM 46 t0,oP 47 (.call 44 [t46]),oP 4 (.mv (.v (.int .i32 0))),oM 5 t47]) (.cn [4,5] .ret)) .skip)) (.seq (.seq (.reg 58 (some [0,1,2,3,4,5,6,7,8,9,10]) (rF 48 t0 0++rF 52 t0 1++[oP 56 (.index t51 t55),oM 57 t9,oP 58 (.bi .neq t56 t57)])) (.cond t58 (.seq (rg 5 [oM 59 t0,oM 60 t1,oP 61 (.call 60 [t59,(vI 33),t60]),oP 4 (.mv (.v (.int .i32 0))),oM 5 t61]) (.cn [4,5] .ret)) .skip)) (rg 0 (rF 62 t0 1++[oP 66 (.bi .add t65 (vI 1))]++rS 67 t62 1 t66)))))) (rg 32 [oP 69 (.bi .add t32 (vI 1)),oM 32 t69])))))
def zay_q:IQ:=(.seq (rg 5 [oP 4 (.mv (.v (.int .i32 0))),oP 5 (.mv vF)]) (.seq (rg 7 [oM 12 t0,oM 13 t1,oP 14 (.call 92 [t12,t13,vF]),oM 11 t14,oP 15 (.extract t11 0),oP 16 (.extract t11 1),oM 6 t15,oM 7 t16]) (.seq (.seq (rg 26 [oM 17 t7,oP 18 (.un .not t17),oM 19 t18,oE 20 (.mv t6) 19,oE 21 (.bi .lss t20 (.v (.int .i32 55296))) 19,oP 22 (.pick t19 vT t21),oM 23 t22,oE 24 (.mv t6) 23,oE 25 (.bi .gtr t24 (.v (.int .i32 57343))) 23,oP 26 (.pick t23 vT t25)]) (.cond t26 (.seq (rg 5 [oM 27 t6,oM 28 t7,oM 4 t27,oM 5 t28]) (.cn [4,5] .ret)) .skip)) (.seq (.seq (rg 32 [oP 29 (.bslice 5 1 2 [.int .u8 0] [(0,(vC 92)),(1,(vC 117))]),oP 30 (.ext .fro [t29]),oP 31 (.len t30),oP 32 (.mv (vI 0))]) (.block 0 (.cn [0,1,6,30,31,32] (.sub 0 zay_b0)))) (.seq (rg 7 [oM 71 t0,oM 72 t1,oP 73 (.call 92 [t71,t72,vT]),oM 70 t73,oP 74 (.extract t70 0),oP 75 (.extract t70 1),oM 10 t74,oM 7 t75]) (.seq (rg 5 [oM 76 t6,oP 77 (.bi .sub t76 (.v (.int .i32 55296))),oP 78 (.bi .shl t77 (.v (.int .u64 10))),oP 79 (.bi .add (.v (.int .i32 65536)) t78),oM 80 t10,oP 81 (.bi .sub t80 (.v (.int .i32 56320))),oP 82 (.bi .add t79 t81),oM 83 t7,oM 4 t82,oM 5 t83]) (.cn [4,5] .ret)))))))
theorem zay_chk:chk Tryd.prog 78 []=some (zay_q.erase,[.tmp 4,.tmp 5],84):=by kernel_rfl
def qCf (from_ x31_ x32_:Int) (qF3:BA) (qF4 qF6:Int) (qGa:BA) (qF8 qGb:Int) (qF9:List Eng.Node) (qF5:List Int) (qF7:List (MapC × Unit)) (x30_:List Int):Option ((Int × Int) ⊕ ((Int × Bool × BA × Int × Int × BA × Int × Int × (List (MapC × Unit))) ⊕ Int)) :=
 bif decide (x32_<x31_) then (
  gd (0≤x32_∧x32_<x30_.length) <|
  gd ((Int.toNat x32_)<x30_.length) <|
  bif decide (qF4=(qF3.size:Int)) then (
   (zax_s (⟨qF3,qF4,qF6,qF9,qF5,qF7,qGa,qF8,qGb⟩:json_reader)).bind fun r9 =>
   some (.inr (.inl ((0:Int),r9.2,r9.1.text,r9.1.at_,r9.1.state,r9.1.key,r9.1.code,r9.1.bad,r9.1.names))))
  else (
   gd (0≤qF4∧qF4<qF3.size) <|
   bif (!decide ((bAt qF3 qF4)=(x30_.getD (Int.toNat x32_) (ET.dft .u8)))) then (
    (zaq_s (⟨qF3,qF4,qF6,qF9,qF5,qF7,qGa,qF8,qGb⟩:json_reader) (33:Int) from_).bind fun r10 =>
    some (.inr (.inl ((0:Int),r10.2,r10.1.text,r10.1.at_,r10.1.state,r10.1.key,r10.1.code,r10.1.bad,r10.1.names))))
   else (
    gd (qAj (qF4+(1:Int))) <|
    gd (qAj (x32_+(1:Int))) <|
    some (.inl ((x32_+(1:Int)),(qF4+(1:Int)))))))
 else (
  some (.inr (.inr qF4)))
def zay_p0 (from_ x31_ x32_:Int) (qF3:BA) (qF4 qF6:Int) (qGa:BA) (qF8 qGb:Int) (qF9:List Eng.Node) (qF5:List Int) (qF7:List (MapC × Unit)) (x30_:List Int):Option ((Int × Bool × BA × Int × Int × BA × Int × Int × (List (MapC × Unit))) ⊕ Int) :=
 qBh (fun x:(Int × Int)=>qCf from_ x31_ x.1 qF3 x.2 qF6 qGa qF8 qGb qF9 qF5 qF7 x30_) (x32_,qF4)
def zay_s (r_:json_reader) (from_:Int):Option (json_reader × Int × Bool) :=
 (zbc_s r_ from_ false).bind fun r8 =>
 bif (((!r8.2.2) || (decide (r8.2.1<(55296:Int)))) || (decide ((57343:Int)<r8.2.1))) then (
  some ({r8.1 with out:=r_.out,open_:=r_.open_:json_reader},r8.2.1,r8.2.2))
 else (
  gd (0<([(92:Int),(117:Int)]:List Int).length) <|
  (zay_p0 from_ ([(92:Int),(117:Int)].length:Int) (0:Int) r8.1.text r8.1.at_ r8.1.state r8.1.key r8.1.code r8.1.bad r_.out r_.open_ r8.1.names [(92:Int),(117:Int)]).bind fun o11=>(Sum.elim (fun (o11_0:Int × Bool × BA × Int × Int × BA × Int × Int × (List (MapC × Unit))) =>
   some ((⟨o11_0.2.2.1,o11_0.2.2.2.1,o11_0.2.2.2.2.1,r_.out,r_.open_,o11_0.2.2.2.2.2.2.2.2,o11_0.2.2.2.2.2.1,o11_0.2.2.2.2.2.2.1,o11_0.2.2.2.2.2.2.2.1⟩:json_reader),o11_0.1,o11_0.2.1)) (fun (o11_1:Int) =>
   (zbc_s {r8.1 with at_:=o11_1,out:=r_.out,open_:=r_.open_:json_reader} from_ true).bind fun r12 =>
   gd (qCe (r8.2.1 - (55296:Int))) <|
   gd (0≤(10:Int)) <|
   gd (qCe ((r8.2.1 - (55296:Int))*1024)) <|
   gd (qCe ((65536:Int)+((r8.2.1 - (55296:Int))*1024))) <|
   gd (qCe (r12.2.1 - (56320:Int))) <|
   gd (qCe (((65536:Int)+((r8.2.1 - (55296:Int))*1024))+(r12.2.1 - (56320:Int)))) <|
   some ({r12.1 with out:=r_.out,open_:=r_.open_:json_reader},(((65536:Int)+((r8.2.1 - (55296:Int))*1024))+(r12.2.1 - (56320:Int))),r12.2.2))) o11)
def zay_G:Nat→Option CQ:=tblQ [(92,zbc_w),(44,zax_w),(60,zaq_w)]
theorem zay_Gok:∀f C,zay_G f=some C→qAe Tryd.prog f C:=qAi ⟨zbc_ok,zax_ok,zaq_ok,tV⟩
def zay_d0:=(dQS (qAb (dSO 0 (dH 0 0)) (qAb (dSO 1 dZ) (qAb (dSO 6 (dI .i32)) (qAb (dSO 30 (dO 4)) (qAb (dSO 31 dZ) (qAb (dSO 32 dZ) dNil)))))) (qAb qDd (qAb (qA9 .node) (qAb (qA9 .i64) (qAb (dBag [.map] 94) (qAb (qA9 .u8) dNil))))))
def zay_l0:SubQ:=mkL zay_d0 (fun x=>zay_p0 x.1.2.1 x.1.2.2.2.2.1 x.1.2.2.2.2.2.1 x.2.1.1 x.2.1.2.1 x.2.1.2.2.1 x.2.1.2.2.2.2.2.2.1 x.2.1.2.2.2.2.2.2.2.1 x.2.1.2.2.2.2.2.2.2.2.1 x.2.2.1 x.2.2.2.1 x.2.2.2.2.1 x.2.2.2.2.2.1) fun x r R kn kx kr=>(Sum.elim (fun (r_0:Int × Bool × BA × Int × Int × BA × Int × Int × (List (MapC × Unit)))=>kr ⟨[(4,[],.c (.o (.val (.int .i32 r_0.1)))),sL 5 (.vB r_0.2.1)],[],[.cells 62 [.vS r_0.2.2.1,.vI r_0.2.2.2.1,.vI r_0.2.2.2.2.1,.own 1,.own 2,.bsl 3,.vS r_0.2.2.2.2.2.1,.vI r_0.2.2.2.2.2.2.1,.vI r_0.2.2.2.2.2.2.2.1],.view .node x.2.2.1,.view .i64 x.2.2.2.1,.bag [.map] 94 r_0.2.2.2.2.2.2.2.2]⟩) (fun (r_1:Int)=>kx 0 ⟨[sL 0 (.hd 0 0),sL 1 (.vI x.1.2.1),(6,[],.c (.o (.val (.int .i32 x.1.2.2.1))))],[],[.cells 62 [.vS x.2.1.1,.vI r_1,.vI x.2.1.2.2.1,.own 1,.own 2,.bsl 3,.vS x.2.1.2.2.2.2.2.2.1,.vI x.2.1.2.2.2.2.2.2.2.1,.vI x.2.1.2.2.2.2.2.2.2.2.1],.view .node x.2.2.1,.view .i64 x.2.2.2.1,.bag [.map] 94 x.2.2.2.2.1]⟩)) r
def zay_L:Nat→SubQ:=tblL [(0,zay_l0)]
theorem zay_sub0:qBr zay_L zay_G 4 33 84 0 zay_b0:=qAu (show zay_L 0=zay_l0 from by kernel_rfl) fun x R kn kx kr=>qAs (step:=fun y=>qCf x.1.2.1 x.1.2.2.2.2.1 y.1 x.2.1.1 y.2 x.2.1.2.2.1 x.2.1.2.2.2.2.2.2.1 x.2.1.2.2.2.2.2.2.2.1 x.2.1.2.2.2.2.2.2.2.2.1 x.2.2.1 x.2.2.2.1 x.2.2.2.2.1 x.2.2.2.2.2.1) (enc:=fun (y:Int × Int)=>zay_d0.e ((x.1.1,x.1.2.1,x.1.2.2.1,x.1.2.2.2.1,x.1.2.2.2.2.1,y.1,x.1.2.2.2.2.2.2),((x.2.1.1,y.2,x.2.1.2.2),x.2.2))) (fun y=>by kernel_rfl) (fun y ki=>by simp only [qCf,-eq_self,qAd,qAg,obA,obS,slL,slR,qAc]; kernel_rfl) (x.1.2.2.2.2.2.1,x.2.1.2.1)
theorem zay_subs:qAo zay_L zay_G 4 33 84 zay_q:=qAk (show qAp zay_L zay_G 4 33 84 [(0,zay_b0)] from ⟨zay_sub0,tV⟩)
def zay_da:=(qAb (dVC (dCO (dH 0 0))) (qAb (dVC (dCO dZ)) dNil))
def zay_db:=(qAb qDd (qAb (qA9 .node) zDJP2))
def zay_c:CS:=mkC zay_da zay_db (fun x y=>zay_s (⟨y.1.1,y.1.2.1,y.1.2.2.1,y.2.1,y.2.2.1,y.2.2.2.1,y.1.2.2.2.2.2.2.1,y.1.2.2.2.2.2.2.2.1,y.1.2.2.2.2.2.2.2.2.1⟩:json_reader) x.2.1) (fun x y r=>.tup [.o (.val (.int .i32 r.2.1)),.o (.vB r.2.2)]) fun x y r=>[.cells 62 [.vS r.1.text,.vI r.1.at_,.vI r.1.state,.own 1,.own 2,.bsl 3,.vS r.1.key,.vI r.1.code,.vI r.1.bad],.view .node y.2.1,.view .i64 y.2.2.1,.bag [.map] 94 r.1.names]
theorem zay_val:qAl Tryd.prog 78 zay_c:=qAm zay_chk 33 zay_Gok 4 (fun x=>Nat.le_of_ble_eq_true rfl) (fun y=>rfl) zay_subs fun x y=>by
 simp only [zay_s,-eq_self,qAd,qAg,obA,obS,slL,slR,qAc];kernel_rfl
def zay_w:CQ:=qBj [(0,some 3,some (.node,34)),(0,some 4,some (.i64,3)),(0,some 5,some ((.bag [.map]),94))] (qCk [true,false,false,true] zay_c)
theorem zay_ok:qAe Tryd.prog 78 zay_w:=qAr zay_val
def zap_b0:IQ:=(.loop [0,4,5,57,58] (.seq (rg 59 [oP 59 (.bi .lss t58 (vI 8))]) (.seq (.cond t59 .skip (.cn [0,4] (.exit 1))) (.seq (.block 2 (.seq (rg 0 [oP 60 (.ext (.aidx 2 8) [t57,t58]),oP 7 (.alloc 139 [.int .u8 0,.int .u8 0]),oN (.store 2 t7 t60)]) (.seq (rg 64 [oM 61 t5,oP 62 (.faddr 0 t7),oP 63 (.load none t62),oP 64 (.bi .eql t61 t63)]) (.cond t64 (.seq (rg 0 (rF 65 t0 1++[oP 69 (.bi .add t68 (vI 1))]++rS 70 t65 1 t69)) (.seq (rg 3 [oP 72 (.faddr 1 t7),oP 73 (.load none t72),oP 74 (.conv false .i32 t73),oM 2 t74,oP 3 (.mv vT)]) (.cn [2,3] .ret))) .skip)))) (rg 58 [oP 75 (.bi .add t58 (vI 1)),oM 58 t75])))))
def zap_q:IQ:=(.seq (rg 3 [oP 2 (.mv (.v (.int .i32 0))),oP 3 (.mv vF)]) (.seq (rg 4 (rF 8 t0 1++[oM 4 t11])) (.seq (rg 0 (rF 12 t0 1++[oP 16 (.bi .add t15 (vI 1))]++rS 17 t12 1 t16)) (.seq (rg 5 [oM 19 t0,oP 20 (.call 41 [t19]),oM 5 t20]) (.seq (.block 0 (.seq (.reg 21 (some [0,1,2,3,4,5,6,7,8,9,10]) (rF 22 t0 1++rF 26 t0 0++[oP 30 (.lenS t29),oP 31 (.bi .eql t25 t30),oM 21 t31])) (.cond t21 (.seq (rg 3 [oM 32 t0,oP 33 (.call 44 [t32]),oP 2 (.mv (.v (.int .i32 0))),oM 3 t33]) (.cn [2,3] .ret)) (.seq (rg 34 [oM 35 t5,oP 36 (.bi .eql t35 (vC 117)),oM 34 t36]) (.cond t34 (.seq (rg 0 (rF 37 t0 1++[oP 41 (.bi .add t40 (vI 1))]++rS 42 t37 1 t41)) (.seq (rg 3 [oM 44 t0,oM 45 t4,oP 46 (.call 78 [t44,t45]),oP 47 (.extract t46 0),oP 48 (.extract t46 1),oM 2 t47,oM 3 t48]) (.cn [2,3] .ret))) .skip))))) (.seq (.seq (rg 58 [oP 49 (.build [.int .u8 0,.int .u8 0] [(0,1,(vC 34)),(1,1,(vC 34))]),oP 50 (.build [.int .u8 0,.int .u8 0] [(0,1,(vC 92)),(1,1,(vC 92))]),oP 51 (.build [.int .u8 0,.int .u8 0] [(0,1,(vC 47)),(1,1,(vC 47))]),oP 52 (.build [.int .u8 0,.int .u8 0] [(0,1,(vC 98)),(1,1,(vC 8))]),oP 53 (.build [.int .u8 0,.int .u8 0] [(0,1,(vC 102)),(1,1,(vC 12))]),oP 54 (.build [.int .u8 0,.int .u8 0] [(0,1,(vC 110)),(1,1,(vC 10))]),oP 55 (.build [.int .u8 0,.int .u8 0] [(0,1,(vC 114)),(1,1,(vC 13))]),oP 56 (.build [.int .u8 0,.int .u8 0] [(0,1,(vC 116)),(1,1,(vC 9))]),oP 57 (.build [.int .u8 0,.int .u8 0,.int .u8 0,.int .u8 0,.int .u8 0,.int .u8 0,.int .u8 0,.int .u8 0,.int .u8 0,.int .u8 0,.int .u8 0,.int .u8 0,.int .u8 0,.int .u8 0,.int .u8 0,.int .u8 0] [(0,2,t49),(2,2,t50),(4,2,t51),(6,2,t52),(8,2,t53),(10,2,t54),(12,2,t55),(14,2,t56)]),oP 58 (.mv (vI 0))]) (.block 1 (.cn [0,4,5,57,58] (.sub 0 zap_b0)))) (.seq (rg 3 [oM 76 t0,oM 77 t4,oP 78 (.call 60 [t76,(vI 33),t77]),oP 2 (.mv (.v (.int .i32 0))),oM 3 t78]) (.cn [2,3] .ret))))))))
theorem zap_chk:chk Tryd.prog 67 []=some (zap_q.erase,[.tmp 2,.tmp 3],79):=by kernel_rfl
def qCh (c x570_ x571_ x572_ x573_ x574_ x575_ x576_ x577_ x578_ x579_ x5710_ x5711_ x5712_ x5713_ x5714_ x5715_ x58_ qF4:Int):Option (Int ⊕ ((Int × Bool × Int) ⊕ Unit)) :=
 bif decide (x58_<(8:Int)) then (
  gd (0≤x58_∧x58_<8) <|
  bif decide (c=(([x570_,x571_,x572_,x573_,x574_,x575_,x576_,x577_,x578_,x579_,x5710_,x5711_,x5712_,x5713_,x5714_,x5715_]:List Int).getD (Int.toNat x58_*2+0) 0)) then (
   gd (qAj (qF4+(1:Int))) <|
   gd (qCe (([x570_,x571_,x572_,x573_,x574_,x575_,x576_,x577_,x578_,x579_,x5710_,x5711_,x5712_,x5713_,x5714_,x5715_]:List Int).getD (Int.toNat x58_*2+1) 0)) <|
   some (.inr (.inl ((([x570_,x571_,x572_,x573_,x574_,x575_,x576_,x577_,x578_,x579_,x5710_,x5711_,x5712_,x5713_,x5714_,x5715_]:List Int).getD (Int.toNat x58_*2+1) 0),true,(qF4+(1:Int))))))
  else (
   gd (qAj (x58_+(1:Int))) <|
   some (.inl (x58_+(1:Int)))))
 else (
  some (.inr (.inr ())))
def zap_p0 (c x570_ x571_ x572_ x573_ x574_ x575_ x576_ x577_ x578_ x579_ x5710_ x5711_ x5712_ x5713_ x5714_ x5715_ x58_ qF4:Int):Option ((Int × Bool × Int) ⊕ Unit) :=
 qBh (fun x:Int=>qCh c x570_ x571_ x572_ x573_ x574_ x575_ x576_ x577_ x578_ x579_ x5710_ x5711_ x5712_ x5713_ x5714_ x5715_ x qF4) x58_
def zap_s (r_:json_reader):Option (json_reader × Int × Bool) :=
 gd (qAj (r_.at_+(1:Int))) <|
 (zav_s {r_ with at_:=(r_.at_+(1:Int)):json_reader}).bind fun r6 =>
 bif decide ((r_.at_+(1:Int))=(r_.text.size:Int)) then (
  (zax_s {r_ with at_:=(r_.at_+(1:Int)):json_reader}).bind fun r7 =>
  some ({r7.1 with out:=r_.out,open_:=r_.open_:json_reader},(0:Int),r7.2))
 else (
  bif decide (r6=(117:Int)) then (
   gd (qAj ((r_.at_+(1:Int))+(1:Int))) <|
   (zay_s {r_ with at_:=((r_.at_+(1:Int))+(1:Int)):json_reader} r_.at_).bind fun r8 =>
   some ({r8.1 with out:=r_.out,open_:=r_.open_:json_reader},r8.2.1,r8.2.2))
  else (
   (zap_p0 r6 (34:Int) (34:Int) (92:Int) (92:Int) (47:Int) (47:Int) (98:Int) (8:Int) (102:Int) (12:Int) (110:Int) (10:Int) (114:Int) (13:Int) (116:Int) (9:Int) (0:Int) (r_.at_+(1:Int))).bind fun o9=>(Sum.elim (fun (o9_0:Int × Bool × Int) =>
    some ({r_ with at_:=o9_0.2.2:json_reader},o9_0.1,o9_0.2.1)) (fun (o9_1:Unit) =>
    (zaq_s {r_ with at_:=(r_.at_+(1:Int)):json_reader} (33:Int) r_.at_).bind fun r10 =>
    some ({r10.1 with out:=r_.out,open_:=r_.open_:json_reader},(0:Int),r10.2))) o9))
def zap_G:Nat→Option CQ:=tblQ [(41,zav_w),(44,zax_w),(78,zay_w),(60,zaq_w)]
theorem zap_Gok:∀f C,zap_G f=some C→qAe Tryd.prog f C:=qAi ⟨zav_ok,zax_ok,zay_ok,zaq_ok,tV⟩
def zap_d0:=(dQS (qAb (dSO 0 (dH 0 0)) (qAb (dSO 4 dZ) (qAb (dSO 5 (dI .u8)) (qAb (dSl 57 (dVC (dCA (qAb (dI .u8) (qAb (dI .u8) (qAb (dI .u8) (qAb (dI .u8) (qAb (dI .u8) (qAb (dI .u8) (qAb (dI .u8) (qAb (dI .u8) (qAb (dI .u8) (qAb (dI .u8) (qAb (dI .u8) (qAb (dI .u8) (qAb (dI .u8) (qAb (dI .u8) (qAb (dI .u8) (qAb (dI .u8) dNil))))))))))))))))))) (qAb (dSO 58 dZ) dNil))))) zDJP5)
def zap_l0:SubQ:=mkL zap_d0 (fun x=>zap_p0 x.1.2.2.1 x.1.2.2.2.1.1 x.1.2.2.2.1.2.1 x.1.2.2.2.1.2.2.1 x.1.2.2.2.1.2.2.2.1 x.1.2.2.2.1.2.2.2.2.1 x.1.2.2.2.1.2.2.2.2.2.1 x.1.2.2.2.1.2.2.2.2.2.2.1 x.1.2.2.2.1.2.2.2.2.2.2.2.1 x.1.2.2.2.1.2.2.2.2.2.2.2.2.1 x.1.2.2.2.1.2.2.2.2.2.2.2.2.2.1 x.1.2.2.2.1.2.2.2.2.2.2.2.2.2.2.1 x.1.2.2.2.1.2.2.2.2.2.2.2.2.2.2.2.1 x.1.2.2.2.1.2.2.2.2.2.2.2.2.2.2.2.2.1 x.1.2.2.2.1.2.2.2.2.2.2.2.2.2.2.2.2.2.1 x.1.2.2.2.1.2.2.2.2.2.2.2.2.2.2.2.2.2.2.1 x.1.2.2.2.1.2.2.2.2.2.2.2.2.2.2.2.2.2.2.2.1 x.1.2.2.2.2.1 x.2.1.2.1) fun x r R kn kx kr=>(Sum.elim (fun (r_0:Int × Bool × Int)=>kr ⟨[(2,[],.c (.o (.val (.int .i32 r_0.1)))),sL 3 (.vB r_0.2.1)],[],[.cells 62 [.vS x.2.1.1,.vI r_0.2.2,.vI x.2.1.2.2.1,.own 1,.own 2,.bsl 3,.vS x.2.1.2.2.2.2.2.2.1,.vI x.2.1.2.2.2.2.2.2.2.1,.vI x.2.1.2.2.2.2.2.2.2.2.1],.view .node x.2.2.1,.view .i64 x.2.2.2.1,.bag [.map] 94 x.2.2.2.2.1]⟩) (fun (r_1:Unit)=>kx 1 ⟨[sL 0 (.hd 0 0),sL 4 (.vI x.1.2.1)],[],[.cells 62 [.vS x.2.1.1,.vI x.2.1.2.1,.vI x.2.1.2.2.1,.own 1,.own 2,.bsl 3,.vS x.2.1.2.2.2.2.2.2.1,.vI x.2.1.2.2.2.2.2.2.2.1,.vI x.2.1.2.2.2.2.2.2.2.2.1],.view .node x.2.2.1,.view .i64 x.2.2.2.1,.bag [.map] 94 x.2.2.2.2.1]⟩)) r
def zap_L:Nat→SubQ:=tblL [(0,zap_l0)]
theorem zap_sub0:qBr zap_L zap_G 4 59 79 0 zap_b0:=qAu (show zap_L 0=zap_l0 from by kernel_rfl) fun x R kn kx kr=>qAs (step:=fun y=>qCh x.1.2.2.1 x.1.2.2.2.1.1 x.1.2.2.2.1.2.1 x.1.2.2.2.1.2.2.1 x.1.2.2.2.1.2.2.2.1 x.1.2.2.2.1.2.2.2.2.1 x.1.2.2.2.1.2.2.2.2.2.1 x.1.2.2.2.1.2.2.2.2.2.2.1 x.1.2.2.2.1.2.2.2.2.2.2.2.1 x.1.2.2.2.1.2.2.2.2.2.2.2.2.1 x.1.2.2.2.1.2.2.2.2.2.2.2.2.2.1 x.1.2.2.2.1.2.2.2.2.2.2.2.2.2.2.1 x.1.2.2.2.1.2.2.2.2.2.2.2.2.2.2.2.1 x.1.2.2.2.1.2.2.2.2.2.2.2.2.2.2.2.2.1 x.1.2.2.2.1.2.2.2.2.2.2.2.2.2.2.2.2.2.1 x.1.2.2.2.1.2.2.2.2.2.2.2.2.2.2.2.2.2.2.1 x.1.2.2.2.1.2.2.2.2.2.2.2.2.2.2.2.2.2.2.2.1 y x.2.1.2.1) (enc:=fun (y:Int)=>zap_d0.e ((x.1.1,x.1.2.1,x.1.2.2.1,x.1.2.2.2.1,y,x.1.2.2.2.2.2),x.2)) (fun y=>by kernel_rfl) (fun y ki=>by simp only [qCh,-eq_self,qAd,qAg,obA,obS,slL,slR,qAc]; kernel_rfl) x.1.2.2.2.2.1
theorem zap_subs:qAo zap_L zap_G 4 59 79 zap_q:=qAk (show qAp zap_L zap_G 4 59 79 [(0,zap_b0)] from ⟨zap_sub0,tV⟩)
def zap_da:=(qAb (dVC (dCO (dH 0 0))) dNil)
def zap_db:=(qAb qDd (qAb (qA9 .node) zDJP2))
def zap_c:CS:=mkC zap_da zap_db (fun x y=>zap_s (⟨y.1.1,y.1.2.1,y.1.2.2.1,y.2.1,y.2.2.1,y.2.2.2.1,y.1.2.2.2.2.2.2.1,y.1.2.2.2.2.2.2.2.1,y.1.2.2.2.2.2.2.2.2.1⟩:json_reader)) (fun x y r=>.tup [.o (.val (.int .i32 r.2.1)),.o (.vB r.2.2)]) fun x y r=>[.cells 62 [.vS r.1.text,.vI r.1.at_,.vI r.1.state,.own 1,.own 2,.bsl 3,.vS r.1.key,.vI r.1.code,.vI r.1.bad],.view .node y.2.1,.view .i64 y.2.2.1,.bag [.map] 94 r.1.names]
theorem zap_val:qAl Tryd.prog 67 zap_c:=qAm zap_chk 59 zap_Gok 4 (fun x=>Nat.le_of_ble_eq_true rfl) (fun y=>rfl) zap_subs fun x y=>by
 simp only [zap_s,-eq_self,qAd,qAg,obA,obS,slL,slR,qAc];kernel_rfl
def zap_w:CQ:=qBj [(0,some 3,some (.node,34)),(0,some 4,some (.i64,3)),(0,some 5,some ((.bag [.map]),94))] (qCk [true,false,false,true] zap_c)
theorem zap_ok:qAe Tryd.prog 67 zap_w:=qAr zap_val
def zce_b0:IQ:=(.cond t25 (.seq (rg 4 [oM 34 t0,oM 35 t1,oP 36 (.bi .shr t35 (.v (.int .u64 12))),oP 37 (.conv false .u8 t36),oP 38 (.bi .or (vC 224) t37),oM 39 t1,oP 40 (.bi .shr t39 (.v (.int .u64 6))),oP 41 (.conv false .u8 t40),oP 42 (.bi .and t41 (vC 63)),oP 43 (.bi .or (vC 128) t42),oM 44 t1,oP 45 (.conv false .u8 t44),oP 46 (.bi .and t45 (vC 63)),oP 47 (.bi .or (vC 128) t46),oP 48 (.bslice 5 1 3 [.int .u8 0] [(0,t38),(1,t43),(2,t47)]),oP 49 (.append 5 1 1 [.int .u8 0] t34 t48),oM 4 t49]) (.canon [(4,none,.u8,5)] [4] .ret)) (.seq (rg 50 [oM 51 t5,oP 52 (.bi .gtr t51 (.v (.int .u32 65535))),oM 53 t52,oF 54 (.mv t5) 53,oF 55 (.bi .leq t54 (.v (.int .u32 1114111))) 53,oP 56 (.pick t53 t55 vF),oM 50 t56]) (.cond t50 (.seq (rg 4 [oM 57 t0,oM 58 t1,oP 59 (.bi .shr t58 (.v (.int .u64 18))),oP 60 (.conv false .u8 t59),oP 61 (.bi .or (vC 240) t60),oM 62 t1,oP 63 (.bi .shr t62 (.v (.int .u64 12))),oP 64 (.conv false .u8 t63),oP 65 (.bi .and t64 (vC 63)),oP 66 (.bi .or (vC 128) t65),oM 67 t1,oP 68 (.bi .shr t67 (.v (.int .u64 6))),oP 69 (.conv false .u8 t68),oP 70 (.bi .and t69 (vC 63)),oP 71 (.bi .or (vC 128) t70),oM 72 t1,oP 73 (.conv false .u8 t72),oP 74 (.bi .and t73 (vC 63)),oP 75 (.bi .or (vC 128) t74),oP 76 (.bslice 5 1 4 [.int .u8 0] [(0,t61),(1,t66),(2,t71),(3,t75)]),oP 77 (.append 5 1 1 [.int .u8 0] t57 t76),oM 4 t77]) (.canon [(4,none,.u8,5)] [4] .ret)) (.seq (rg 4 [oM 8 t0,oP 9 (.bslice 5 1 3 [.int .u8 0] [(0,(vC 239)),(1,(vC 191)),(2,(vC 189))]),oP 10 (.append 5 1 1 [.int .u8 0] t8 t9),oM 4 t10]) (.canon [(4,none,.u8,5)] [4] .ret)))))
def zce_q:IQ:=(.seq (rg 4 [oP 4 (.mv (.v (.slice none 0 0)))]) (.seq (rg 5 [oM 6 t1,oP 7 (.conv false .u32 t6),oM 5 t7]) (.block 0 (.seq (rg 11 [oM 12 t5,oP 13 (.bi .leq t12 (.v (.int .u32 2047))),oM 11 t13]) (.cond t11 (.seq (rg 4 [oM 14 t0,oM 15 t1,oP 16 (.bi .shr t15 (.v (.int .u64 6))),oP 17 (.conv false .u8 t16),oP 18 (.bi .or (vC 192) t17),oM 19 t1,oP 20 (.conv false .u8 t19),oP 21 (.bi .and t20 (vC 63)),oP 22 (.bi .or (vC 128) t21),oP 23 (.bslice 5 1 2 [.int .u8 0] [(0,t18),(1,t22)]),oP 24 (.append 5 1 1 [.int .u8 0] t14 t23),oM 4 t24]) (.canon [(4,none,.u8,5)] [4] .ret)) (.seq (.seq (rg 25 [oM 26 t5,oP 27 (.bi .lss t26 (.v (.int .u32 55296))),oM 25 t27]) (.cond t25 .skip (rg 25 [oM 28 t5,oP 29 (.bi .lss (.v (.int .u32 57343)) t28),oM 30 t29,oF 31 (.mv t5) 30,oF 32 (.bi .leq t31 (.v (.int .u32 65535))) 30,oP 33 (.pick t30 t32 vF),oM 25 t33]))) (.cn [0,1,5,25] (.sub 0 zce_b0))))))))
theorem zce_chk:chk Tryd.prog 79 []=some (zce_q.erase,[.tmp 4],78):=by kernel_rfl
def zce_p0 (r_ i:Int) (x25_:Bool) (p:List Int):Option ((List Int)) :=
 bif x25_ then (
  gd (0≤(12:Int)) <|
  gd (0≤(6:Int)) <|
  gd (p.length+([(qBl .u8 (224:Int) ((r_ / 4096) % 256)),(qBl .u8 (128:Int) (qCd .u8 ((r_ / 64) % 256) (63:Int))),(qBl .u8 (128:Int) (qCd .u8 (r_ % 256) (63:Int)))]:List Int).length≤9223372036854775807∧(p.length+([(qBl .u8 (224:Int) ((r_ / 4096) % 256)),(qBl .u8 (128:Int) (qCd .u8 ((r_ / 64) % 256) (63:Int))),(qBl .u8 (128:Int) (qCd .u8 (r_ % 256) (63:Int)))]:List Int).length)*1≤140737488355328) <|
  some (p++[(qBl .u8 (224:Int) ((r_ / 4096) % 256)),(qBl .u8 (128:Int) (qCd .u8 ((r_ / 64) % 256) (63:Int))),(qBl .u8 (128:Int) (qCd .u8 (r_ % 256) (63:Int)))]))
 else (
  bif ((decide ((65535:Int)<i)) && (decide (i≤(1114111:Int)))) then (
   gd (0≤(18:Int)) <|
   gd (0≤(12:Int)) <|
   gd (0≤(6:Int)) <|
   gd (p.length+([(qBl .u8 (240:Int) ((r_ / 262144) % 256)),(qBl .u8 (128:Int) (qCd .u8 ((r_ / 4096) % 256) (63:Int))),(qBl .u8 (128:Int) (qCd .u8 ((r_ / 64) % 256) (63:Int))),(qBl .u8 (128:Int) (qCd .u8 (r_ % 256) (63:Int)))]:List Int).length≤9223372036854775807∧(p.length+([(qBl .u8 (240:Int) ((r_ / 262144) % 256)),(qBl .u8 (128:Int) (qCd .u8 ((r_ / 4096) % 256) (63:Int))),(qBl .u8 (128:Int) (qCd .u8 ((r_ / 64) % 256) (63:Int))),(qBl .u8 (128:Int) (qCd .u8 (r_ % 256) (63:Int)))]:List Int).length)*1≤140737488355328) <|
   some (p++[(qBl .u8 (240:Int) ((r_ / 262144) % 256)),(qBl .u8 (128:Int) (qCd .u8 ((r_ / 4096) % 256) (63:Int))),(qBl .u8 (128:Int) (qCd .u8 ((r_ / 64) % 256) (63:Int))),(qBl .u8 (128:Int) (qCd .u8 (r_ % 256) (63:Int)))]))
  else (
   gd (p.length+([(239:Int),(191:Int),(189:Int)]:List Int).length≤9223372036854775807∧(p.length+([(239:Int),(191:Int),(189:Int)]:List Int).length)*1≤140737488355328) <|
   some (p++[(239:Int),(191:Int),(189:Int)])))
def zce_s (p:(List Int)) (r_:Int):Option ((List Int)) :=
 bif decide ((r_ % 4294967296)≤(2047:Int)) then (
  gd (0≤(6:Int)) <|
  gd (p.length+([(qBl .u8 (192:Int) ((r_ / 64) % 256)),(qBl .u8 (128:Int) (qCd .u8 (r_ % 256) (63:Int)))]:List Int).length≤9223372036854775807∧(p.length+([(qBl .u8 (192:Int) ((r_ / 64) % 256)),(qBl .u8 (128:Int) (qCd .u8 (r_ % 256) (63:Int)))]:List Int).length)*1≤140737488355328) <|
  some (p++[(qBl .u8 (192:Int) ((r_ / 64) % 256)),(qBl .u8 (128:Int) (qCd .u8 (r_ % 256) (63:Int)))]))
 else (
  bif decide ((r_ % 4294967296)<(55296:Int)) then (
   (zce_p0 r_ (r_ % 4294967296) (decide ((r_ % 4294967296)<(55296:Int))) p).bind fun o1 =>
   some o1)
  else (
   (zce_p0 r_ (r_ % 4294967296) ((decide ((57343:Int)<(r_ % 4294967296))) && (decide ((r_ % 4294967296)≤(65535:Int)))) p).bind fun o2 =>
   some o2))
def zce_G:Nat→Option CQ:=tblQ []
theorem zce_Gok:∀f C,zce_G f=some C→qAe Tryd.prog f C:=fun f C h=>by cases h
def zce_d0:=(dQS (qAb (dSO 0 (dO 0)) (qAb (dSO 1 (dI .i32)) (qAb (dSO 5 (dI .u32)) (qAb (dSO 25 dB) dNil)))) (qAb (dRow .u8 5) dNil))
def zce_l0:SubQ:=mkL zce_d0 (fun x=>zce_p0 x.1.2.1 x.1.2.2.1 x.1.2.2.2.1 x.2.1) fun x r R kn kx kr=>kr ⟨[sL 4 (.own 1)],[],[.dead,.row .u8 5 r]⟩
def zce_L:Nat→SubQ:=tblL [(0,zce_l0)]
theorem zce_sub0:qBr zce_L zce_G 1 6 78 0 zce_b0:=qAu (show zce_L 0=zce_l0 from by kernel_rfl) fun x R kn kx kr=>by
 simp only [zce_p0,-eq_self,qAd,qAg,obA,obS,slL,slR,qAc];kernel_rfl
theorem zce_subs:qAo zce_L zce_G 1 6 78 zce_q:=qAk (show qAp zce_L zce_G 1 6 78 [(0,zce_b0)] from ⟨zce_sub0,tV⟩)
def zce_da:=(qAb (dVC (dCO (dO 0))) (qAb (dVC (dCO (dI .i32))) dNil))
def zce_db:=(qAb (dRow .u8 5) dNil)
def zce_c:CS:=mkC zce_da zce_db (fun x y=>zce_s y.1 x.2.1) (fun x y r=>.c (.o (.own 1))) fun x y r=>[.dead,.row .u8 5 r]
theorem zce_val:qAl Tryd.prog 79 zce_c:=qAm zce_chk 6 zce_Gok 1 (fun x=>Nat.le_of_ble_eq_true rfl) (fun y=>rfl) zce_subs fun x y=>by
 simp only [zce_s,-eq_self,qAd,qAg,obA,obS,slL,slR,qAc];kernel_rfl
def zce_w:CQ:=qBj [(0,none,some (.u8,5))] (qCk [true] zce_c)
theorem zce_ok:qAe Tryd.prog 79 zce_w:=qAr zce_val
def zcd_q:IQ:=(.seq (rg 4 [oP 4 (.mv (.v (.slice none 0 0)))]) (.seq (.seq (rg 7 [oM 5 t1,oP 6 (.conv false .u32 t5),oP 7 (.bi .leq t6 (.v (.int .u32 127)))]) (.cond t7 (.seq (rg 4 [oM 8 t0,oM 9 t1,oP 10 (.conv false .u8 t9),oP 11 (.bslice 5 1 1 [.int .u8 0] [(0,t10)]),oP 12 (.append 5 1 1 [.int .u8 0] t8 t11),oM 4 t12]) (.canon [(4,none,.u8,5)] [4] .ret)) .skip)) (.seq (rg 4 [oM 13 t0,oM 14 t1,oP 15 (.call 79 [t13,t14]),oM 4 t15]) (.canon [(4,none,.u8,5)] [4] .ret))))
theorem zcd_chk:chk Tryd.prog 68 []=some (zcd_q.erase,[.tmp 4],16):=by kernel_rfl
def zcd_s (p:(List Int)) (r_:Int):Option ((List Int)) :=
 bif decide ((r_ % 4294967296)≤(127:Int)) then (
  gd (p.length+([(r_ % 256)]:List Int).length≤9223372036854775807∧(p.length+([(r_ % 256)]:List Int).length)*1≤140737488355328) <|
  some (p++[(r_ % 256)]))
 else (
  (zce_s p r_).bind fun r1 =>
  some r1)
def zcd_G:Nat→Option CQ:=tblQ [(79,zce_w)]
theorem zcd_Gok:∀f C,zcd_G f=some C→qAe Tryd.prog f C:=qAi ⟨zce_ok,tV⟩
def zcd_L:Nat→SubQ:=tblL []
theorem zcd_subs:qAo zcd_L zcd_G 1 5 16 zcd_q:=qAk (show qAp zcd_L zcd_G 1 5 16 [] from tV)
def zcd_da:=(qAb (dVC (dCO (dO 0))) (qAb (dVC (dCO (dI .i32))) dNil))
def zcd_db:=(qAb (dRow .u8 5) dNil)
def zcd_c:CS:=mkC zcd_da zcd_db (fun x y=>zcd_s y.1 x.2.1) (fun x y r=>.c (.o (.own 1))) fun x y r=>[.dead,.row .u8 5 r]
theorem zcd_val:qAl Tryd.prog 68 zcd_c:=qAm zcd_chk 5 zcd_Gok 1 (fun x=>Nat.le_of_ble_eq_true rfl) (fun y=>rfl) zcd_subs fun x y=>by
 simp only [zcd_s,-eq_self,qAd,qAg,obA,obS,slL,slR,qAc];kernel_rfl
def zcd_w:CQ:=qBj [(0,none,some (.u8,5))] (qCk [true] zcd_c)
theorem zcd_ok:qAe Tryd.prog 68 zcd_w:=qAr zcd_val
def zba_q:IQ:=(.seq (rg 3 [oP 2 (.mv (vI 0)),oP 3 (.mv vF)]) (.seq (.reg 5 (some [0,1,2,3,4,5,6,7,8,9,10,11,12,13,14]) (rF 7 t0 0++rF 11 t0 1++[oP 15 (.sub none t10 (some t14) none),oP 16 (.call 80 [t15]),oM 6 t16,oP 17 (.extract t6 0),oP 18 (.extract t6 1),oM 4 t17,oM 5 t18])) (.seq (.seq (rg 24 [oM 19 t4,oP 20 (.bi .neq t19 (.v (.int .i32 65533))),oM 21 t20,oE 22 (.mv t5) 21,oE 23 (.bi .gtr t22 (vI 1)) 21,oP 24 (.pick t21 vT t23)]) (.cond t24 (.seq (rg 3 [oM 25 t5,oM 2 t25,oP 3 (.mv vT)]) (.cn [2,3] .ret)) .skip)) (.seq (.seq (.reg 36 (some [0,1,2,3,4,5,6,7,8,9,10]) (rF 26 t0 0++rF 30 t0 1++[oP 34 (.sub none t29 (some t33) none),oP 35 (.call 81 [t34]),oP 36 (.un .not t35)])) (.cond t36 (.seq (rg 3 ([oM 37 t0]++rF 38 t0 0++[oP 42 (.lenS t41),oP 43 (.call 60 [t37,(vI 31),t42]),oP 2 (.mv (vI 0)),oM 3 t43])) (.cn [2,3] .ret)) .skip)) (.seq (rg 3 ([oM 44 t0]++rF 45 t0 1++[oP 49 (.call 60 [t44,(vI 32),t48]),oP 2 (.mv (vI 0)),oM 3 t49])) (.cn [2,3] .ret))))))
theorem zba_chk:chk Tryd.prog 69 []=some (zba_q.erase,[.tmp 2,.tmp 3],50):=by kernel_rfl
def zba_s (r_:json_reader):Option (json_reader × Int × Bool) :=
 gd (0≤r_.at_∧r_.at_≤(r_.text.size:Int)∧(r_.text.size:Int)≤r_.text.size) <|
 (qA7 (r_.text.extract (Int.toNat r_.at_) r_.text.size)).bind fun r4 =>
 bif ((!decide (r4.1=(65533:Int))) || (decide ((1:Int)<r4.2))) then (
  some (r_,r4.2,true))
 else (
  gd (0≤r_.at_∧r_.at_≤(r_.text.size:Int)∧(r_.text.size:Int)≤r_.text.size) <|
  (qBk (r_.text.extract (Int.toNat r_.at_) r_.text.size)).bind fun r5 =>
  bif (!r5) then (
   (zaq_s r_ (31:Int) (r_.text.size:Int)).bind fun r6 =>
   some ({r6.1 with out:=r_.out,open_:=r_.open_:json_reader},(0:Int),r6.2))
  else (
   (zaq_s r_ (32:Int) r_.at_).bind fun r7 =>
   some ({r7.1 with out:=r_.out,open_:=r_.open_:json_reader},(0:Int),r7.2)))
def zba_G:Nat→Option CQ:=tblQ [(80,qCm),(81,qDa),(60,zaq_w)]
theorem zba_Gok:∀f C,zba_G f=some C→qAe Tryd.prog f C:=qAi ⟨qE1,qFt,zaq_ok,tV⟩
def zba_L:Nat→SubQ:=tblL []
theorem zba_subs:qAo zba_L zba_G 4 6 50 zba_q:=qAk (show qAp zba_L zba_G 4 6 50 [] from tV)
def zba_da:=(qAb (dVC (dCO (dH 0 0))) dNil)
def zba_db:=(qAb qDd (qAb (qA9 .node) zDJP2))
def zba_c:CS:=mkC zba_da zba_db (fun x y=>zba_s (⟨y.1.1,y.1.2.1,y.1.2.2.1,y.2.1,y.2.2.1,y.2.2.2.1,y.1.2.2.2.2.2.2.1,y.1.2.2.2.2.2.2.2.1,y.1.2.2.2.2.2.2.2.2.1⟩:json_reader)) (fun x y r=>.tup [.o (.vI r.2.1),.o (.vB r.2.2)]) fun x y r=>[.cells 62 [.vS r.1.text,.vI r.1.at_,.vI r.1.state,.own 1,.own 2,.bsl 3,.vS r.1.key,.vI r.1.code,.vI r.1.bad],.view .node y.2.1,.view .i64 y.2.2.1,.bag [.map] 94 r.1.names]
theorem zba_val:qAl Tryd.prog 69 zba_c:=qAm zba_chk 6 zba_Gok 4 (fun x=>Nat.le_of_ble_eq_true rfl) (fun y=>rfl) zba_subs fun x y=>by
 simp only [zba_s,-eq_self,qAd,qAg,obA,obS,slL,slR,qAc];kernel_rfl
def zba_w:CQ:=qBj [(0,some 3,some (.node,34)),(0,some 4,some (.i64,3)),(0,some 5,some ((.bag [.map]),94))] (qCk [true,false,false,true] zba_c)
theorem zba_ok:qAe Tryd.prog 69 zba_w:=qAr zba_val
def zaz_b0:IQ:=(.loop [0,4] (.block 1 (.seq (.seq (.reg 26 (some [0,1,2,3,4,5,6,7,8,9]) (rF 17 t0 1++rF 21 t0 0++[oP 25 (.lenS t24),oP 26 (.bi .eql t20 t25)])) (.cond t26 (.seq (rg 3 [oM 27 t0,oP 28 (.call 44 [t27]),oP 2 (.mv (.v (.string ⟨#[]⟩))),oM 3 t28]) (.cn [2,3] .ret)) .skip)) (.seq (.reg 5 (some [0,1,2,3,4,5,6,7,8,9]) (rF 29 t0 0++rF 33 t0 1++[oP 37 (.index t32 t36),oM 5 t37])) (.block 2 (.seq (rg 70 [oM 71 t5,oP 72 (.bi .eql t71 (vC 34)),oM 70 t72]) (.cond t70 (.seq (rg 0 (rF 73 t0 1++[oP 77 (.bi .add t76 (vI 1))]++rS 78 t73 1 t77)) (.seq (rg 3 [oM 80 t4,oP 81 (.ext .toStr [t80]),oM 2 t81,oP 3 (.mv vT)]) (.cn [2,3] .ret))) (.seq (rg 82 [oM 83 t5,oP 84 (.bi .eql t83 (vC 92)),oM 82 t84]) (.cond t82 (.seq (rg 7 [oM 86 t0,oP 87 (.call 67 [t86]),oM 85 t87,oP 88 (.extract t85 0),oP 89 (.extract t85 1),oM 6 t88,oM 7 t89]) (.seq (.seq (rg 91 [oM 90 t7,oP 91 (.un .not t90)]) (.cond t91 (.seq (rg 3 [oP 2 (.mv (.v (.string ⟨#[]⟩))),oP 3 (.mv vF)]) (.cn [2,3] .ret)) .skip)) (rg 4 [oM 92 t4,oM 93 t6,oP 94 (.call 68 [t92,t93]),oM 4 t94]))) (.seq (rg 95 [oM 96 t5,oP 97 (.bi .lss t96 (vC 32)),oM 95 t97]) (.cond t95 (.seq (rg 3 [oM 98 t0,oP 99 (.call 44 [t98]),oP 2 (.mv (.v (.string ⟨#[]⟩))),oM 3 t99]) (.cn [2,3] .ret)) (.seq (rg 100 [oM 101 t5,oP 102 (.bi .lss t101 (vC 128)),oM 100 t102]) (.cond t100 (.seq (rg 4 [oM 103 t4,oM 104 t5,oP 105 (.bslice 5 1 1 [.int .u8 0] [(0,t104)]),oP 106 (.append 5 1 1 [.int .u8 0] t103 t105),oM 4 t106]) (rg 0 (rF 107 t0 1++[oP 111 (.bi .add t110 (vI 1))]++rS 112 t107 1 t111))) (.seq (rg 9 [oM 39 t0,oP 40 (.call 69 [t39]),oM 38 t40,oP 41 (.extract t38 0),oP 42 (.extract t38 1),oM 8 t41,oM 9 t42]) (.seq (.seq (rg 44 [oM 43 t9,oP 44 (.un .not t43)]) (.cond t44 (.seq (rg 3 [oP 2 (.mv (.v (.string ⟨#[]⟩))),oP 3 (.mv vF)]) (.cn [2,3] .ret)) .skip)) (.seq (.reg 4 (some [0,1,2,3,4,5,6,7,8,9,10,11,12,13,14,15,16,17]) ([oM 45 t4]++rF 46 t0 0++rF 50 t0 1++rF 54 t0 1++[oM 58 t8,oP 59 (.bi .add t57 t58),oP 60 (.sub none t49 (some t53) (some t59)),oP 61 (.ext (.appStr 5) [t45,t60]),oM 4 t61])) (rg 0 (rF 62 t0 1++[oM 66 t8,oP 67 (.bi .add t65 t66)]++rS 68 t62 1 t67))))))))))))))))))
def zaz_q:IQ:=(.seq (rg 3 [oP 2 (.mv (.v (.string ⟨#[]⟩))),oP 3 (.mv vF)]) (.seq (rg 4 [oP 4 (.mv (.v (.slice none 0 0)))]) (.seq (rg 0 (rF 10 t0 1++[oP 14 (.bi .add t13 (vI 1))]++rS 15 t10 1 t14)) (.block 0 (.canon [(4,none,.u8,5)] [0,4] (.sub 0 zaz_b0))))))
theorem zaz_chk:chk Tryd.prog 56 []=some (zaz_q.erase,[.tmp 2,.tmp 3],114):=by kernel_rfl
def qBd (qF3:BA) (qF4 qF6:Int) (qGa:BA) (qF8 qGb:Int) (qF9:List Eng.Node) (qF5:List Int) (qF7:List (MapC × Unit)) (b:List Int):Option ((BA × Int × Int × BA × Int × Int × (List (MapC × Unit)) × (List Int)) ⊕ (BA × Bool × BA × Int × Int × BA × Int × Int × (List (MapC × Unit)))) :=
 bif decide (qF4=(qF3.size:Int)) then (
  (zax_s (⟨qF3,qF4,qF6,qF9,qF5,qF7,qGa,qF8,qGb⟩:json_reader)).bind fun r34 =>
  some (.inr ((⟨#[]⟩:BA),r34.2,r34.1.text,r34.1.at_,r34.1.state,r34.1.key,r34.1.code,r34.1.bad,r34.1.names)))
 else (
  gd (0≤qF4∧qF4<qF3.size) <|
  bif decide ((bAt qF3 qF4)=(34:Int)) then (
   gd (qAj (qF4+(1:Int))) <|
   some (.inr ((qBe b),true,qF3,(qF4+(1:Int)),qF6,qGa,qF8,qGb,qF7)))
  else (
   bif decide ((bAt qF3 qF4)=(92:Int)) then (
    (zap_s (⟨qF3,qF4,qF6,qF9,qF5,qF7,qGa,qF8,qGb⟩:json_reader)).bind fun r35 =>
    bif (!r35.2.2) then (
     some (.inr ((⟨#[]⟩:BA),false,r35.1.text,r35.1.at_,r35.1.state,r35.1.key,r35.1.code,r35.1.bad,r35.1.names)))
    else (
     (zcd_s b r35.2.1).bind fun r36 =>
     some (.inl (r35.1.text,r35.1.at_,r35.1.state,r35.1.key,r35.1.code,r35.1.bad,r35.1.names,r36))))
   else (
    bif decide ((bAt qF3 qF4)<(32:Int)) then (
     (zax_s (⟨qF3,qF4,qF6,qF9,qF5,qF7,qGa,qF8,qGb⟩:json_reader)).bind fun r37 =>
     some (.inr ((⟨#[]⟩:BA),r37.2,r37.1.text,r37.1.at_,r37.1.state,r37.1.key,r37.1.code,r37.1.bad,r37.1.names)))
    else (
     bif decide ((bAt qF3 qF4)<(128:Int)) then (
      gd (b.length+([(bAt qF3 qF4)]:List Int).length≤9223372036854775807∧(b.length+([(bAt qF3 qF4)]:List Int).length)*1≤140737488355328) <|
      gd (qAj (qF4+(1:Int))) <|
      some (.inl (qF3,(qF4+(1:Int)),qF6,qGa,qF8,qGb,qF7,(b++[(bAt qF3 qF4)]))))
     else (
      (zba_s (⟨qF3,qF4,qF6,qF9,qF5,qF7,qGa,qF8,qGb⟩:json_reader)).bind fun r38 =>
      bif (!r38.2.2) then (
       some (.inr ((⟨#[]⟩:BA),false,r38.1.text,r38.1.at_,r38.1.state,r38.1.key,r38.1.code,r38.1.bad,r38.1.names)))
      else (
       gd (qAj (r38.1.at_+r38.2.1)) <|
       gd (0≤r38.1.at_∧r38.1.at_≤(r38.1.at_+r38.2.1)∧(r38.1.at_+r38.2.1)≤r38.1.text.size) <|
       gd (b.length+(r38.1.text.extract (Int.toNat r38.1.at_) (Int.toNat (r38.1.at_+r38.2.1))).size≤140737488355328) <|
       gd (qAj (r38.1.at_+r38.2.1)) <|
       some (.inl (r38.1.text,(r38.1.at_+r38.2.1),r38.1.state,r38.1.key,r38.1.code,r38.1.bad,r38.1.names,(b++(qBx (r38.1.text.extract (Int.toNat r38.1.at_) (Int.toNat (r38.1.at_+r38.2.1)))))))))))))
def zaz_p0 (qF3:BA) (qF4 qF6:Int) (qGa:BA) (qF8 qGb:Int) (qF9:List Eng.Node) (qF5:List Int) (qF7:List (MapC × Unit)) (b:List Int):Option (BA × Bool × BA × Int × Int × BA × Int × Int × (List (MapC × Unit))) :=
 qBh (fun x:(BA × Int × Int × BA × Int × Int × (List (MapC × Unit)) × (List Int))=>qBd x.1 x.2.1 x.2.2.1 x.2.2.2.1 x.2.2.2.2.1 x.2.2.2.2.2.1 qF9 qF5 x.2.2.2.2.2.2.1 x.2.2.2.2.2.2.2) (qF3,qF4,qF6,qGa,qF8,qGb,qF7,b)
def zaz_s (r_:json_reader):Option (json_reader × BA × Bool) :=
 gd (qAj (r_.at_+(1:Int))) <|
 (zaz_p0 r_.text (r_.at_+(1:Int)) r_.state r_.key r_.code r_.bad r_.out r_.open_ r_.names []).bind fun o39 =>
 some ((⟨o39.2.2.1,o39.2.2.2.1,o39.2.2.2.2.1,r_.out,r_.open_,o39.2.2.2.2.2.2.2.2,o39.2.2.2.2.2.1,o39.2.2.2.2.2.2.1,o39.2.2.2.2.2.2.2.1⟩:json_reader),o39.1,o39.2.1)
def zaz_G:Nat→Option CQ:=tblQ [(44,zax_w),(67,zap_w),(68,zcd_w),(69,zba_w)]
theorem zaz_Gok:∀f C,zaz_G f=some C→qAe Tryd.prog f C:=qAi ⟨zax_ok,zap_ok,zcd_ok,zba_ok,tV⟩
def zaz_d0:=(dQS (qAb (dSO 0 (dH 0 0)) (qAb (dSO 4 (dO 4)) dNil)) (qAb qDd (qAb (qA9 .node) (qAb (qA9 .i64) (qAb (dBag [.map] 94) (qAb (dRow .u8 5) dNil))))))
def zaz_l0:SubQ:=mkL zaz_d0 (fun x=>zaz_p0 x.2.1.1 x.2.1.2.1 x.2.1.2.2.1 x.2.1.2.2.2.2.2.2.1 x.2.1.2.2.2.2.2.2.2.1 x.2.1.2.2.2.2.2.2.2.2.1 x.2.2.1 x.2.2.2.1 x.2.2.2.2.1 x.2.2.2.2.2.1) fun x r R kn kx kr=>kr ⟨[sL 2 (.vS r.1),sL 3 (.vB r.2.1)],[],[.cells 62 [.vS r.2.2.1,.vI r.2.2.2.1,.vI r.2.2.2.2.1,.own 1,.own 2,.bsl 3,.vS r.2.2.2.2.2.1,.vI r.2.2.2.2.2.2.1,.vI r.2.2.2.2.2.2.2.1],.view .node x.2.2.1,.view .i64 x.2.2.2.1,.bag [.map] 94 r.2.2.2.2.2.2.2.2]⟩
def zaz_L:Nat→SubQ:=tblL [(0,zaz_l0)]
theorem zaz_sub0:qBr zaz_L zaz_G 4 10 114 0 zaz_b0:=qAu (show zaz_L 0=zaz_l0 from by kernel_rfl) fun x R kn kx kr=>qAs (step:=fun y=>qBd y.1 y.2.1 y.2.2.1 y.2.2.2.1 y.2.2.2.2.1 y.2.2.2.2.2.1 x.2.2.1 x.2.2.2.1 y.2.2.2.2.2.2.1 y.2.2.2.2.2.2.2) (enc:=fun (y:BA × Int × Int × BA × Int × Int × (List (MapC × Unit)) × (List Int))=>zaz_d0.e (x.1,((y.1,y.2.1,y.2.2.1,x.2.1.2.2.2.1,x.2.1.2.2.2.2.1,x.2.1.2.2.2.2.2.1,y.2.2.2.1,y.2.2.2.2.1,y.2.2.2.2.2.1,x.2.1.2.2.2.2.2.2.2.2.2),x.2.2.1,x.2.2.2.1,y.2.2.2.2.2.2.1,y.2.2.2.2.2.2.2,x.2.2.2.2.2.2))) (fun y=>by kernel_rfl) (fun y ki=>by simp only [qBd,-eq_self,qAd,qAg,obA,obS,slL,slR,qAc]; kernel_rfl) (x.2.1.1,x.2.1.2.1,x.2.1.2.2.1,x.2.1.2.2.2.2.2.2.1,x.2.1.2.2.2.2.2.2.2.1,x.2.1.2.2.2.2.2.2.2.2.1,x.2.2.2.2.1,x.2.2.2.2.2.1)
theorem zaz_subs:qAo zaz_L zaz_G 4 10 114 zaz_q:=qAk (show qAp zaz_L zaz_G 4 10 114 [(0,zaz_b0)] from ⟨zaz_sub0,tV⟩)
def zaz_da:=(qAb (dVC (dCO (dH 0 0))) dNil)
def zaz_db:=(qAb qDd (qAb (qA9 .node) zDJP2))
def zaz_c:CS:=mkC zaz_da zaz_db (fun x y=>zaz_s (⟨y.1.1,y.1.2.1,y.1.2.2.1,y.2.1,y.2.2.1,y.2.2.2.1,y.1.2.2.2.2.2.2.1,y.1.2.2.2.2.2.2.2.1,y.1.2.2.2.2.2.2.2.2.1⟩:json_reader)) (fun x y r=>.tup [.o (.vS r.2.1),.o (.vB r.2.2)]) fun x y r=>[.cells 62 [.vS r.1.text,.vI r.1.at_,.vI r.1.state,.own 1,.own 2,.bsl 3,.vS r.1.key,.vI r.1.code,.vI r.1.bad],.view .node y.2.1,.view .i64 y.2.2.1,.bag [.map] 94 r.1.names]
theorem zaz_val:qAl Tryd.prog 56 zaz_c:=qAm zaz_chk 10 zaz_Gok 4 (fun x=>Nat.le_of_ble_eq_true rfl) (fun y=>rfl) zaz_subs fun x y=>by
 simp only [zaz_s,-eq_self,qAd,qAg,obA,obS,slL,slR,qAc];kernel_rfl
def zaz_w:CQ:=qBj [(0,some 3,some (.node,34)),(0,some 4,some (.i64,3)),(0,some 5,some ((.bag [.map]),94))] (qCk [true,false,false,true] zaz_c)
theorem zaz_ok:qAe Tryd.prog 56 zaz_w:=qAr zaz_val
def zan_b0:IQ:=(.loop [0,4] (.seq (.seq (rg 22 [oM 17 t4,oP 18 (.bi .geq t17 (vC 48)),oM 19 t18,oF 20 (.mv t4) 19,oF 21 (.bi .leq t20 (vC 57)) 19,oP 22 (.pick t19 t21 vF)]) (.cond t22 .skip (.cn [] (.exit 0)))) (.seq (.block 1 (rg 0 (rF 25 t0 1++[oP 29 (.bi .add t28 (vI 1))]++rS 30 t25 1 t29))) (rg 4 [oM 23 t0,oP 24 (.call 41 [t23]),oM 4 t24]))))
def zan_q:IQ:=(.seq (rg 2 [oP 2 (.mv vF)]) (.seq (.seq (rg 3 [oM 5 t0,oP 6 (.call 41 [t5]),oM 3 t6]) (.seq (rg 12 [oM 7 t3,oP 8 (.bi .lss t7 (vC 48)),oM 9 t8,oE 10 (.mv t3) 9,oE 11 (.bi .gtr t10 (vC 57)) 9,oP 12 (.pick t9 vT t11)]) (.cond t12 (.seq (rg 2 [oM 13 t0,oP 14 (.call 44 [t13]),oM 2 t14]) (.cn [2] .ret)) .skip))) (.seq (.seq (rg 4 [oM 15 t0,oP 16 (.call 41 [t15]),oM 4 t16]) (.block 0 (.cn [0,4] (.sub 0 zan_b0)))) (.seq (rg 2 [oP 2 (.mv vT)]) (.cn [2] .ret)))))
theorem zan_chk:chk Tryd.prog 70 []=some (zan_q.erase,[.tmp 2],32):=by kernel_rfl
def qEt (c:Int) (qF3:BA) (qF4 qF6:Int) (qGa:BA) (qF8 qGb:Int) (qF9:List Eng.Node) (qF5:List Int) (qF7:List (MapC × Unit)):Option ((Int × Int) ⊕ Int) :=
 bif ((decide ((48:Int)≤c)) && (decide (c≤(57:Int)))) then (
  gd (qAj (qF4+(1:Int))) <|
  (zav_s (⟨qF3,(qF4+(1:Int)),qF6,qF9,qF5,qF7,qGa,qF8,qGb⟩:json_reader)).bind fun r14 =>
  some (.inl (r14,(qF4+(1:Int)))))
 else (
  some (.inr qF4))
def zan_p0 (c:Int) (qF3:BA) (qF4 qF6:Int) (qGa:BA) (qF8 qGb:Int) (qF9:List Eng.Node) (qF5:List Int) (qF7:List (MapC × Unit)):Option Int :=
 qBh (fun x:(Int × Int)=>qEt x.1 qF3 x.2 qF6 qGa qF8 qGb qF9 qF5 qF7) (c,qF4)
def zan_s (r_:json_reader):Option (json_reader × Bool) :=
 (zav_s r_).bind fun r11 =>
 bif ((decide (r11<(48:Int))) || (decide ((57:Int)<r11))) then (
  (zax_s r_).bind fun r12 =>
  some ({r12.1 with out:=r_.out,open_:=r_.open_:json_reader},r12.2))
 else (
  (zav_s r_).bind fun r13 =>
  (zan_p0 r13 r_.text r_.at_ r_.state r_.key r_.code r_.bad r_.out r_.open_ r_.names).bind fun o15 =>
  some ({r_ with at_:=o15:json_reader},true))
def zan_G:Nat→Option CQ:=tblQ [(41,zav_w),(44,zax_w)]
theorem zan_Gok:∀f C,zan_G f=some C→qAe Tryd.prog f C:=qAi ⟨zav_ok,zax_ok,tV⟩
def zan_d0:=(dQS (qAb (dSO 0 (dH 0 0)) (qAb (dSO 4 (dI .u8)) dNil)) zDJP5)
def zan_l0:SubQ:=mkL zan_d0 (fun x=>zan_p0 x.1.2.1 x.2.1.1 x.2.1.2.1 x.2.1.2.2.1 x.2.1.2.2.2.2.2.2.1 x.2.1.2.2.2.2.2.2.2.1 x.2.1.2.2.2.2.2.2.2.2.1 x.2.2.1 x.2.2.2.1 x.2.2.2.2.1) fun x r R kn kx kr=>kx 0 ⟨[],[],[.cells 62 [.vS x.2.1.1,.vI r,.vI x.2.1.2.2.1,.own 1,.own 2,.bsl 3,.vS x.2.1.2.2.2.2.2.2.1,.vI x.2.1.2.2.2.2.2.2.2.1,.vI x.2.1.2.2.2.2.2.2.2.2.1],.view .node x.2.2.1,.view .i64 x.2.2.2.1,.bag [.map] 94 x.2.2.2.2.1]⟩
def zan_L:Nat→SubQ:=tblL [(0,zan_l0)]
theorem zan_sub0:qBr zan_L zan_G 4 5 32 0 zan_b0:=qAu (show zan_L 0=zan_l0 from by kernel_rfl) fun x R kn kx kr=>qAs (step:=fun y=>qEt y.1 x.2.1.1 y.2 x.2.1.2.2.1 x.2.1.2.2.2.2.2.2.1 x.2.1.2.2.2.2.2.2.2.1 x.2.1.2.2.2.2.2.2.2.2.1 x.2.2.1 x.2.2.2.1 x.2.2.2.2.1) (enc:=fun (y:Int × Int)=>zan_d0.e ((x.1.1,y.1,x.1.2.2),((x.2.1.1,y.2,x.2.1.2.2),x.2.2))) (fun y=>by kernel_rfl) (fun y ki=>by simp only [qEt,-eq_self,qAd,qAg,obA,obS,slL,slR,qAc]; kernel_rfl) (x.1.2.1,x.2.1.2.1)
theorem zan_subs:qAo zan_L zan_G 4 5 32 zan_q:=qAk (show qAp zan_L zan_G 4 5 32 [(0,zan_b0)] from ⟨zan_sub0,tV⟩)
def zan_da:=(qAb (dVC (dCO (dH 0 0))) dNil)
def zan_db:=(qAb qDd (qAb (qA9 .node) zDJP2))
def zan_c:CS:=mkC zan_da zan_db (fun x y=>zan_s (⟨y.1.1,y.1.2.1,y.1.2.2.1,y.2.1,y.2.2.1,y.2.2.2.1,y.1.2.2.2.2.2.2.1,y.1.2.2.2.2.2.2.2.1,y.1.2.2.2.2.2.2.2.2.1⟩:json_reader)) (fun x y r=>.c (.o (.vB r.2))) fun x y r=>[.cells 62 [.vS r.1.text,.vI r.1.at_,.vI r.1.state,.own 1,.own 2,.bsl 3,.vS r.1.key,.vI r.1.code,.vI r.1.bad],.view .node y.2.1,.view .i64 y.2.2.1,.bag [.map] 94 r.1.names]
theorem zan_val:qAl Tryd.prog 70 zan_c:=qAm zan_chk 5 zan_Gok 4 (fun x=>Nat.le_of_ble_eq_true rfl) (fun y=>rfl) zan_subs fun x y=>by
 simp only [zan_s,-eq_self,qAd,qAg,obA,obS,slL,slR,qAc];kernel_rfl
def zan_w:CQ:=qBj [(0,some 3,some (.node,34)),(0,some 4,some (.i64,3)),(0,some 5,some ((.bag [.map]),94))] (qCk [true,false,false,true] zan_c)
theorem zan_ok:qAe Tryd.prog 70 zan_w:=qAr zan_val
def zaw_b3:IQ:=(.seq (.reg 0 (some [0,1,2,3,4,5,6,7,8,9,10,11,12]) (rF 80 t0 0++[oM 84 t3]++rF 85 t0 1++[oP 89 (.sub none t83 (some t84) (some t88)),oP 90 (.build [.int .i64 0,.string ⟨#[]⟩,.string ⟨#[]⟩,.bool false,.int .i64 0,.int .i64 0] [(0,1,(vI 4)),(2,1,t89)]),oP 6 (.alloc 34 [.int .i64 0,.string ⟨#[]⟩,.string ⟨#[]⟩,.bool false,.int .i64 0,.int .i64 0]),oN (.store 6 t6 t90)])) (.seq (rg 0 [oP 92 (.faddr 2 t6),oP 93 (.load none t92),oP 94 (.call 61 [t93]),oM 91 t94,oP 95 (.extract t91 0),oP 96 (.extract t91 1),oP 97 (.faddr 4 t6),oN (.store 1 t97 t95),oP 98 (.faddr 3 t6),oN (.store 1 t98 t96)]) (.seq (rg 101 [oM 99 t0,oP 100 (.load (some 6) t6),oP 101 (.call 57 [t99,t100])]) (.seq (rg 103 [oM 102 t0,oP 103 (.call 54 [t102])]) (.seq (rg 2 [oP 2 (.mv vT)]) (.canon [(1000000,some 3,.u8,0),(3000001,none,.u8,0)] [2] .ret))))))
def zaw_b2:IQ:=(.seq (.seq (rg 4 [oM 47 t0,oP 48 (.call 41 [t47]),oM 4 t48]) (.seq (rg 54 [oM 49 t4,oP 50 (.bi .eql t49 (vC 101)),oM 51 t50,oE 52 (.mv t4) 51,oE 53 (.bi .eql t52 (vC 69)) 51,oP 54 (.pick t51 vT t53)]) (.cond t54 (.seq (rg 0 (rF 55 t0 1++[oP 59 (.bi .add t58 (vI 1))]++rS 60 t55 1 t59)) (.seq (.seq (rg 5 [oM 62 t0,oP 63 (.call 41 [t62]),oM 5 t63]) (.seq (rg 69 [oM 64 t5,oP 65 (.bi .eql t64 (vC 43)),oM 66 t65,oE 67 (.mv t5) 66,oE 68 (.bi .eql t67 (vC 45)) 66,oP 69 (.pick t66 vT t68)]) (.cond t69 (rg 0 (rF 70 t0 1++[oP 74 (.bi .add t73 (vI 1))]++rS 75 t70 1 t74)) .skip))) (.seq (rg 79 [oM 77 t0,oP 78 (.call 70 [t77]),oP 79 (.un .not t78)]) (.cond t79 (.seq (rg 2 [oP 2 (.mv vF)]) (.canon [(1000000,some 3,.u8,0),(3000001,none,.u8,0)] [2] .ret)) .skip)))) .skip))) (.cn [0,3] (.sub 3 zaw_b3)))
def zaw_b1:IQ:=(.seq (.seq (rg 36 [oM 34 t0,oP 35 (.call 41 [t34]),oP 36 (.bi .eql t35 (vC 46))]) (.cond t36 (.seq (rg 0 (rF 37 t0 1++[oP 41 (.bi .add t40 (vI 1))]++rS 42 t37 1 t41)) (.seq (rg 46 [oM 44 t0,oP 45 (.call 70 [t44]),oP 46 (.un .not t45)]) (.cond t46 (.seq (rg 2 [oP 2 (.mv vF)]) (.canon [(1000000,some 3,.u8,0),(3000001,none,.u8,0)] [2] .ret)) .skip))) .skip)) (.cn [0,3] (.sub 2 zaw_b2)))
def zaw_b0:IQ:=(.seq (.seq (rg 23 [oM 21 t0,oP 22 (.call 41 [t21]),oP 23 (.bi .eql t22 (vC 48))]) (.cond t23 (rg 0 (rF 24 t0 1++[oP 28 (.bi .add t27 (vI 1))]++rS 29 t24 1 t28)) (.seq (rg 33 [oM 31 t0,oP 32 (.call 70 [t31]),oP 33 (.un .not t32)]) (.cond t33 (.seq (rg 2 [oP 2 (.mv vF)]) (.canon [(1000000,some 3,.u8,0),(3000001,none,.u8,0)] [2] .ret)) .skip)))) (.cn [0,3] (.sub 1 zaw_b1)))
def zaw_q:IQ:=(.seq (rg 2 [oP 2 (.mv vF)]) (.seq (rg 3 (rF 7 t0 1++[oM 3 t10])) (.seq (.seq (rg 13 [oM 11 t0,oP 12 (.call 41 [t11]),oP 13 (.bi .eql t12 (vC 45))]) (.cond t13 (rg 0 (rF 14 t0 1++[oP 18 (.bi .add t17 (vI 1))]++rS 19 t14 1 t18)) .skip)) (.cn [0,3] (.sub 0 zaw_b0)))))
theorem zaw_chk:chk Tryd.prog 58 []=some (zaw_q.erase,[.tmp 2],104):=by kernel_rfl
def zaw_p3 (from_:Int) (qF3:BA) (qF4 qF6:Int) (qGa:BA) (qF8 qGb:Int) (qF9:List Eng.Node) (qF5:List Int) (qF7:List (MapC × Unit)):Option (Bool × BA × Int × Int × BA × Int × Int × (List (MapC × Unit)) × (List Eng.Node)) :=
 gd (0≤from_∧from_≤qF4∧qF4≤qF3.size) <|
 (zaa_s (qF3.extract (Int.toNat from_) (Int.toNat qF4))).bind fun r73 =>
 (zar_s (⟨qF3,qF4,qF6,qF9,qF5,qF7,qGa,qF8,qGb⟩:json_reader) (⟨(4:Int),(⟨#[]⟩:BA),(qF3.extract (Int.toNat from_) (Int.toNat qF4)),r73.2,r73.1,(0:Int)⟩:Eng.Node)).bind fun r74 =>
 (zal_s {r74 with open_:=qF5:json_reader}).bind fun r75 =>
 some (true,r75.text,r75.at_,r75.state,r75.key,r75.code,r75.bad,r75.names,r74.out)
def zaw_p2 (from_:Int) (qF3:BA) (qF4 qF6:Int) (qGa:BA) (qF8 qGb:Int) (qF9:List Eng.Node) (qF5:List Int) (qF7:List (MapC × Unit)):Option (Bool × BA × Int × Int × BA × Int × Int × (List (MapC × Unit)) × (List Eng.Node)) :=
 (zav_s (⟨qF3,qF4,qF6,qF9,qF5,qF7,qGa,qF8,qGb⟩:json_reader)).bind fun r70 =>
 bif ((decide (r70=(101:Int))) || (decide (r70=(69:Int)))) then (
  gd (qAj (qF4+(1:Int))) <|
  (zav_s (⟨qF3,(qF4+(1:Int)),qF6,qF9,qF5,qF7,qGa,qF8,qGb⟩:json_reader)).bind fun r71 =>
  bif ((decide (r71=(43:Int))) || (decide (r71=(45:Int)))) then (
   gd (qAj ((qF4+(1:Int))+(1:Int))) <|
   (zan_s (⟨qF3,((qF4+(1:Int))+(1:Int)),qF6,qF9,qF5,qF7,qGa,qF8,qGb⟩:json_reader)).bind fun r72 =>
   bif (!r72.2) then (
    some (false,r72.1.text,r72.1.at_,r72.1.state,r72.1.key,r72.1.code,r72.1.bad,r72.1.names,qF9))
   else (
    (zaw_p3 from_ r72.1.text r72.1.at_ r72.1.state r72.1.key r72.1.code r72.1.bad qF9 qF5 r72.1.names).bind fun o76 =>
    some (o76.1,o76.2.1,o76.2.2.1,o76.2.2.2.1,o76.2.2.2.2.1,o76.2.2.2.2.2.1,o76.2.2.2.2.2.2.1,o76.2.2.2.2.2.2.2.1,o76.2.2.2.2.2.2.2.2)))
  else (
   (zan_s (⟨qF3,(qF4+(1:Int)),qF6,qF9,qF5,qF7,qGa,qF8,qGb⟩:json_reader)).bind fun r77 =>
   bif (!r77.2) then (
    some (false,r77.1.text,r77.1.at_,r77.1.state,r77.1.key,r77.1.code,r77.1.bad,r77.1.names,qF9))
   else (
    (zaw_p3 from_ r77.1.text r77.1.at_ r77.1.state r77.1.key r77.1.code r77.1.bad qF9 qF5 r77.1.names).bind fun o78 =>
    some (o78.1,o78.2.1,o78.2.2.1,o78.2.2.2.1,o78.2.2.2.2.1,o78.2.2.2.2.2.1,o78.2.2.2.2.2.2.1,o78.2.2.2.2.2.2.2.1,o78.2.2.2.2.2.2.2.2))))
 else (
  (zaw_p3 from_ qF3 qF4 qF6 qGa qF8 qGb qF9 qF5 qF7).bind fun o79 =>
  some (o79.1,o79.2.1,o79.2.2.1,o79.2.2.2.1,o79.2.2.2.2.1,o79.2.2.2.2.2.1,o79.2.2.2.2.2.2.1,o79.2.2.2.2.2.2.2.1,o79.2.2.2.2.2.2.2.2))
def zaw_p1 (from_:Int) (qF3:BA) (qF4 qF6:Int) (qGa:BA) (qF8 qGb:Int) (qF9:List Eng.Node) (qF5:List Int) (qF7:List (MapC × Unit)):Option (Bool × BA × Int × Int × BA × Int × Int × (List (MapC × Unit)) × (List Eng.Node)) :=
 (zav_s (⟨qF3,qF4,qF6,qF9,qF5,qF7,qGa,qF8,qGb⟩:json_reader)).bind fun r68 =>
 bif decide (r68=(46:Int)) then (
  gd (qAj (qF4+(1:Int))) <|
  (zan_s (⟨qF3,(qF4+(1:Int)),qF6,qF9,qF5,qF7,qGa,qF8,qGb⟩:json_reader)).bind fun r69 =>
  bif (!r69.2) then (
   some (false,r69.1.text,r69.1.at_,r69.1.state,r69.1.key,r69.1.code,r69.1.bad,r69.1.names,qF9))
  else (
   (zaw_p2 from_ r69.1.text r69.1.at_ r69.1.state r69.1.key r69.1.code r69.1.bad qF9 qF5 r69.1.names).bind fun o80 =>
   some (o80.1,o80.2.1,o80.2.2.1,o80.2.2.2.1,o80.2.2.2.2.1,o80.2.2.2.2.2.1,o80.2.2.2.2.2.2.1,o80.2.2.2.2.2.2.2.1,o80.2.2.2.2.2.2.2.2)))
 else (
  (zaw_p2 from_ qF3 qF4 qF6 qGa qF8 qGb qF9 qF5 qF7).bind fun o81 =>
  some (o81.1,o81.2.1,o81.2.2.1,o81.2.2.2.1,o81.2.2.2.2.1,o81.2.2.2.2.2.1,o81.2.2.2.2.2.2.1,o81.2.2.2.2.2.2.2.1,o81.2.2.2.2.2.2.2.2))
def zaw_p0 (from_:Int) (qF3:BA) (qF4 qF6:Int) (qGa:BA) (qF8 qGb:Int) (qF9:List Eng.Node) (qF5:List Int) (qF7:List (MapC × Unit)):Option (Bool × BA × Int × Int × BA × Int × Int × (List (MapC × Unit)) × (List Eng.Node)) :=
 (zav_s (⟨qF3,qF4,qF6,qF9,qF5,qF7,qGa,qF8,qGb⟩:json_reader)).bind fun r67 =>
 bif decide (r67=(48:Int)) then (
  gd (qAj (qF4+(1:Int))) <|
  (zaw_p1 from_ qF3 (qF4+(1:Int)) qF6 qGa qF8 qGb qF9 qF5 qF7).bind fun o82 =>
  some (o82.1,o82.2.1,o82.2.2.1,o82.2.2.2.1,o82.2.2.2.2.1,o82.2.2.2.2.2.1,o82.2.2.2.2.2.2.1,o82.2.2.2.2.2.2.2.1,o82.2.2.2.2.2.2.2.2))
 else (
  (zan_s (⟨qF3,qF4,qF6,qF9,qF5,qF7,qGa,qF8,qGb⟩:json_reader)).bind fun r83 =>
  bif (!r83.2) then (
   some (false,r83.1.text,r83.1.at_,r83.1.state,r83.1.key,r83.1.code,r83.1.bad,r83.1.names,qF9))
  else (
   (zaw_p1 from_ r83.1.text r83.1.at_ r83.1.state r83.1.key r83.1.code r83.1.bad qF9 qF5 r83.1.names).bind fun o84 =>
   some (o84.1,o84.2.1,o84.2.2.1,o84.2.2.2.1,o84.2.2.2.2.1,o84.2.2.2.2.2.1,o84.2.2.2.2.2.2.1,o84.2.2.2.2.2.2.2.1,o84.2.2.2.2.2.2.2.2)))
def zaw_s (r_:json_reader):Option (json_reader × Bool) :=
 (zav_s r_).bind fun r66 =>
 bif decide (r66=(45:Int)) then (
  gd (qAj (r_.at_+(1:Int))) <|
  (zaw_p0 r_.at_ r_.text (r_.at_+(1:Int)) r_.state r_.key r_.code r_.bad r_.out r_.open_ r_.names).bind fun o85 =>
  some ((⟨o85.2.1,o85.2.2.1,o85.2.2.2.1,o85.2.2.2.2.2.2.2.2,r_.open_,o85.2.2.2.2.2.2.2.1,o85.2.2.2.2.1,o85.2.2.2.2.2.1,o85.2.2.2.2.2.2.1⟩:json_reader),o85.1))
 else (
  (zaw_p0 r_.at_ r_.text r_.at_ r_.state r_.key r_.code r_.bad r_.out r_.open_ r_.names).bind fun o86 =>
  some ((⟨o86.2.1,o86.2.2.1,o86.2.2.2.1,o86.2.2.2.2.2.2.2.2,r_.open_,o86.2.2.2.2.2.2.2.1,o86.2.2.2.2.1,o86.2.2.2.2.2.1,o86.2.2.2.2.2.2.1⟩:json_reader),o86.1))
def zaw_G:Nat→Option CQ:=tblQ [(41,zav_w),(70,zan_w),(61,zaa_w),(57,zar_w),(54,zal_w)]
theorem zaw_Gok:∀f C,zaw_G f=some C→qAe Tryd.prog f C:=qAi ⟨zav_ok,zan_ok,zaa_ok,zar_ok,zal_ok,tV⟩
def zDJP4:=(qAb qDd (qAb (dRow .node 34) zDJP2))
def zDJP6:=(qAb (dSO 0 (dH 0 0)) (qAb (dSO 3 dZ) dNil))
def zaw_d3:=(dQS zDJP6 zDJP4)
def zaw_l3:SubQ:=mkL zaw_d3 (fun x=>zaw_p3 x.1.2.1 x.2.1.1 x.2.1.2.1 x.2.1.2.2.1 x.2.1.2.2.2.2.2.2.1 x.2.1.2.2.2.2.2.2.2.1 x.2.1.2.2.2.2.2.2.2.2.1 x.2.2.1 x.2.2.2.1 x.2.2.2.2.1) fun x r R kn kx kr=>kr ⟨[sL 2 (.vB r.1)],[],[.cells 62 [.vS r.2.1,.vI r.2.2.1,.vI r.2.2.2.1,.own 4,.own 2,.bsl 3,.vS r.2.2.2.2.1,.vI r.2.2.2.2.2.1,.vI r.2.2.2.2.2.2.1],.dead,.view .i64 x.2.2.2.1,.bag [.map] 94 r.2.2.2.2.2.2.2.1,.row .node 34 r.2.2.2.2.2.2.2.2]⟩
def zaw_d2:=(dQS zDJP6 zDJP4)
def zaw_l2:SubQ:=mkL zaw_d2 (fun x=>zaw_p2 x.1.2.1 x.2.1.1 x.2.1.2.1 x.2.1.2.2.1 x.2.1.2.2.2.2.2.2.1 x.2.1.2.2.2.2.2.2.2.1 x.2.1.2.2.2.2.2.2.2.2.1 x.2.2.1 x.2.2.2.1 x.2.2.2.2.1) fun x r R kn kx kr=>kr ⟨[sL 2 (.vB r.1)],[],[.cells 62 [.vS r.2.1,.vI r.2.2.1,.vI r.2.2.2.1,.own 4,.own 2,.bsl 3,.vS r.2.2.2.2.1,.vI r.2.2.2.2.2.1,.vI r.2.2.2.2.2.2.1],.dead,.view .i64 x.2.2.2.1,.bag [.map] 94 r.2.2.2.2.2.2.2.1,.row .node 34 r.2.2.2.2.2.2.2.2]⟩
def zaw_d1:=(dQS zDJP6 zDJP4)
def zaw_l1:SubQ:=mkL zaw_d1 (fun x=>zaw_p1 x.1.2.1 x.2.1.1 x.2.1.2.1 x.2.1.2.2.1 x.2.1.2.2.2.2.2.2.1 x.2.1.2.2.2.2.2.2.2.1 x.2.1.2.2.2.2.2.2.2.2.1 x.2.2.1 x.2.2.2.1 x.2.2.2.2.1) fun x r R kn kx kr=>kr ⟨[sL 2 (.vB r.1)],[],[.cells 62 [.vS r.2.1,.vI r.2.2.1,.vI r.2.2.2.1,.own 4,.own 2,.bsl 3,.vS r.2.2.2.2.1,.vI r.2.2.2.2.2.1,.vI r.2.2.2.2.2.2.1],.dead,.view .i64 x.2.2.2.1,.bag [.map] 94 r.2.2.2.2.2.2.2.1,.row .node 34 r.2.2.2.2.2.2.2.2]⟩
def zaw_d0:=(dQS zDJP6 zDJP4)
def zaw_l0:SubQ:=mkL zaw_d0 (fun x=>zaw_p0 x.1.2.1 x.2.1.1 x.2.1.2.1 x.2.1.2.2.1 x.2.1.2.2.2.2.2.2.1 x.2.1.2.2.2.2.2.2.2.1 x.2.1.2.2.2.2.2.2.2.2.1 x.2.2.1 x.2.2.2.1 x.2.2.2.2.1) fun x r R kn kx kr=>kr ⟨[sL 2 (.vB r.1)],[],[.cells 62 [.vS r.2.1,.vI r.2.2.1,.vI r.2.2.2.1,.own 4,.own 2,.bsl 3,.vS r.2.2.2.2.1,.vI r.2.2.2.2.2.1,.vI r.2.2.2.2.2.2.1],.dead,.view .i64 x.2.2.2.1,.bag [.map] 94 r.2.2.2.2.2.2.2.1,.row .node 34 r.2.2.2.2.2.2.2.2]⟩
def zaw_L:Nat→SubQ:=tblL [(3,zaw_l3),(2,zaw_l2),(1,zaw_l1),(0,zaw_l0)]
theorem zaw_sub3:qBr zaw_L zaw_G 4 7 104 3 zaw_b3:=qAu (show zaw_L 3=zaw_l3 from by kernel_rfl) fun x R kn kx kr=>by
 simp only [zaw_p3,-eq_self,qAd,qAg,obA,obS,slL,slR,qAc];kernel_rfl
theorem zaw_sub2:qBr zaw_L zaw_G 4 7 104 2 zaw_b2:=qAu (show zaw_L 2=zaw_l2 from by kernel_rfl) fun x R kn kx kr=>by
 simp only [zaw_p2,-eq_self,qAd,qAg,obA,obS,slL,slR,qAc];kernel_rfl
theorem zaw_sub1:qBr zaw_L zaw_G 4 7 104 1 zaw_b1:=qAu (show zaw_L 1=zaw_l1 from by kernel_rfl) fun x R kn kx kr=>by
 simp only [zaw_p1,-eq_self,qAd,qAg,obA,obS,slL,slR,qAc];kernel_rfl
theorem zaw_sub0:qBr zaw_L zaw_G 4 7 104 0 zaw_b0:=qAu (show zaw_L 0=zaw_l0 from by kernel_rfl) fun x R kn kx kr=>by
 simp only [zaw_p0,-eq_self,qAd,qAg,obA,obS,slL,slR,qAc];kernel_rfl
theorem zaw_subs:qAo zaw_L zaw_G 4 7 104 zaw_q:=qAk (show qAp zaw_L zaw_G 4 7 104 [(0,zaw_b0),(1,zaw_b1),(2,zaw_b2),(3,zaw_b3)] from ⟨zaw_sub0,zaw_sub1,zaw_sub2,zaw_sub3,tV⟩)
def zaw_da:=(qAb (dVC (dCO (dH 0 0))) dNil)
def zaw_db:=(qAb qDd (qAb (dRow .node 34) zDJP2))
def zaw_c:CS:=mkC zaw_da zaw_db (fun x y=>zaw_s (⟨y.1.1,y.1.2.1,y.1.2.2.1,y.2.1,y.2.2.1,y.2.2.2.1,y.1.2.2.2.2.2.2.1,y.1.2.2.2.2.2.2.2.1,y.1.2.2.2.2.2.2.2.2.1⟩:json_reader)) (fun x y r=>.c (.o (.vB r.2))) fun x y r=>[.cells 62 [.vS r.1.text,.vI r.1.at_,.vI r.1.state,.own 4,.own 2,.bsl 3,.vS r.1.key,.vI r.1.code,.vI r.1.bad],.dead,.view .i64 y.2.2.1,.bag [.map] 94 r.1.names,.row .node 34 r.1.out]
theorem zaw_val:qAl Tryd.prog 58 zaw_c:=qAm zaw_chk 7 zaw_Gok 4 (fun x=>Nat.le_of_ble_eq_true rfl) (fun y=>rfl) zaw_subs fun x y=>by
 simp only [zaw_s,-eq_self,qAd,qAg,obA,obS,slL,slR,qAc];kernel_rfl
def zaw_w:CQ:=qBj [(0,some 3,some (.node,34)),(0,some 4,some (.i64,3)),(0,some 5,some ((.bag [.map]),94))] (qCk [true,true,false,true] zaw_c)
theorem zaw_ok:qAe Tryd.prog 58 zaw_w:=qAr zaw_val
def zas_b0:IQ:=(.loop [0,1,2,9,10] (.seq (rg 11 [oP 11 (.bi .lss t10 t9)]) (.seq (.cond t11 .skip (.cn [0,2] (.exit 0))) (.seq (.block 1 (.seq (rg 7 [oM 12 t10,oM 7 t12]) (.seq (.seq (.reg 18 (some [0,2,3,4,1,5]) [oM 13 t0,oM 15 t1,oM 16 t7,oP 17 (.index t15 t16),oP 14 (.call 41 [t13]),oP 18 (.bi .neq t14 t17)]) (.cond t18 (.seq (rg 6 [oM 19 t0,oP 20 (.call 44 [t19]),oM 6 t20]) (.canon [(1000000,some 3,.u8,0),(3000001,none,.u8,0)] [6] .ret)) .skip)) (rg 0 (rF 21 t0 1++[oP 25 (.bi .add t24 (vI 1))]++rS 26 t21 1 t25))))) (rg 10 [oP 28 (.bi .add t10 (vI 1)),oM 10 t28])))))
def zas_q:IQ:=(.seq (rg 6 [oP 6 (.mv vF)]) (.seq (.seq (rg 10 [oM 8 t1,oP 9 (.lenS t8),oP 10 (.mv (vI 0))]) (.block 0 (.cn [0,1,2,9,10] (.sub 0 zas_b0)))) (.seq (rg 32 [oM 29 t0,oM 30 t2,oP 31 (.build [.int .i64 0,.string ⟨#[]⟩,.string ⟨#[]⟩,.bool false,.int .i64 0,.int .i64 0] [(0,1,t30)]),oP 32 (.call 57 [t29,t31])]) (.seq (rg 34 [oM 33 t0,oP 34 (.call 54 [t33])]) (.seq (rg 6 [oP 6 (.mv vT)]) (.canon [(1000000,some 3,.u8,0),(3000001,none,.u8,0)] [6] .ret))))))
theorem zas_chk:chk Tryd.prog 59 []=some (zas_q.erase,[.tmp 6],35):=by kernel_rfl
def qB3 (word:BA) (x9_ x10_:Int) (qF3:BA) (qF4 qF6:Int) (qGa:BA) (qF8 qGb:Int) (qF9:List Eng.Node) (qF5:List Int) (qF7:List (MapC × Unit)):Option ((Int × Int) ⊕ ((Bool × BA × Int × Int × BA × Int × Int × (List (MapC × Unit))) ⊕ Int)) :=
 bif decide (x10_<x9_) then (
  gd (0≤x10_∧x10_<word.size) <|
  (zav_s (⟨qF3,qF4,qF6,qF9,qF5,qF7,qGa,qF8,qGb⟩:json_reader)).bind fun r24 =>
  gd (([.cells 62 [.vS qF3,.vI qF4,.vI qF6,.own 1,.own 2,.bsl 3,.vS qGa,.vI qF8,.vI qGb],.row .node 34 qF9,.view .i64 qF5,.bag [.map] 94 qF7]:List SB)=[.cells 62 [.vS qF3,.vI qF4,.vI qF6,.own 1,.own 2,.bsl 3,.vS qGa,.vI qF8,.vI qGb],.row .node 34 qF9,.view .i64 qF5,.bag [.map] 94 qF7]) <|
  bif (!decide (r24=(bAt word x10_))) then (
   (zax_s (⟨qF3,qF4,qF6,qF9,qF5,qF7,qGa,qF8,qGb⟩:json_reader)).bind fun r25 =>
   some (.inr (.inl (r25.2,r25.1.text,r25.1.at_,r25.1.state,r25.1.key,r25.1.code,r25.1.bad,r25.1.names))))
  else (
   gd (qAj (qF4+(1:Int))) <|
   gd (qAj (x10_+(1:Int))) <|
   some (.inl ((x10_+(1:Int)),(qF4+(1:Int))))))
 else (
  some (.inr (.inr qF4)))
def zas_p0 (word:BA) (x9_ x10_:Int) (qF3:BA) (qF4 qF6:Int) (qGa:BA) (qF8 qGb:Int) (qF9:List Eng.Node) (qF5:List Int) (qF7:List (MapC × Unit)):Option ((Bool × BA × Int × Int × BA × Int × Int × (List (MapC × Unit))) ⊕ Int) :=
 qBh (fun x:(Int × Int)=>qB3 word x9_ x.1 qF3 x.2 qF6 qGa qF8 qGb qF9 qF5 qF7) (x10_,qF4)
def zas_s (r_:json_reader) (word:BA) (k_:Int):Option (json_reader × Bool) :=
 (zas_p0 word (word.size:Int) (0:Int) r_.text r_.at_ r_.state r_.key r_.code r_.bad r_.out r_.open_ r_.names).bind fun o26=>(Sum.elim (fun (o26_0:Bool × BA × Int × Int × BA × Int × Int × (List (MapC × Unit))) =>
  some ((⟨o26_0.2.1,o26_0.2.2.1,o26_0.2.2.2.1,r_.out,r_.open_,o26_0.2.2.2.2.2.2.2,o26_0.2.2.2.2.1,o26_0.2.2.2.2.2.1,o26_0.2.2.2.2.2.2.1⟩:json_reader),o26_0.1)) (fun (o26_1:Int) =>
  (zar_s {r_ with at_:=o26_1:json_reader} (⟨k_,(⟨#[]⟩:BA),(⟨#[]⟩:BA),false,(0:Int),(0:Int)⟩:Eng.Node)).bind fun r27 =>
  (zal_s {r27 with open_:=r_.open_:json_reader}).bind fun r28 =>
  some ({r28 with out:=r27.out,open_:=r_.open_:json_reader},true))) o26
def zas_G:Nat→Option CQ:=tblQ [(41,zav_w),(44,zax_w),(57,zar_w),(54,zal_w)]
theorem zas_Gok:∀f C,zas_G f=some C→qAe Tryd.prog f C:=qAi ⟨zav_ok,zax_ok,zar_ok,zal_ok,tV⟩
def zas_d0:=(dQS (qAb (dSO 0 (dH 0 0)) (qAb (dSO 1 dS) (qAb (dSO 2 dZ) (qAb (dSO 9 dZ) (qAb (dSO 10 dZ) dNil))))) zDJP4)
def zas_l0:SubQ:=mkL zas_d0 (fun x=>zas_p0 x.1.2.1 x.1.2.2.2.1 x.1.2.2.2.2.1 x.2.1.1 x.2.1.2.1 x.2.1.2.2.1 x.2.1.2.2.2.2.2.2.1 x.2.1.2.2.2.2.2.2.2.1 x.2.1.2.2.2.2.2.2.2.2.1 x.2.2.1 x.2.2.2.1 x.2.2.2.2.1) fun x r R kn kx kr=>(Sum.elim (fun (r_0:Bool × BA × Int × Int × BA × Int × Int × (List (MapC × Unit)))=>kr ⟨[sL 6 (.vB r_0.1)],[],[.cells 62 [.vS r_0.2.1,.vI r_0.2.2.1,.vI r_0.2.2.2.1,.own 4,.own 2,.bsl 3,.vS r_0.2.2.2.2.1,.vI r_0.2.2.2.2.2.1,.vI r_0.2.2.2.2.2.2.1],.dead,.view .i64 x.2.2.2.1,.bag [.map] 94 r_0.2.2.2.2.2.2.2,.row .node 34 x.2.2.1]⟩) (fun (r_1:Int)=>kx 0 ⟨[sL 0 (.hd 0 0),sL 2 (.vI x.1.2.2.1)],[],[.cells 62 [.vS x.2.1.1,.vI r_1,.vI x.2.1.2.2.1,.own 1,.own 2,.bsl 3,.vS x.2.1.2.2.2.2.2.2.1,.vI x.2.1.2.2.2.2.2.2.2.1,.vI x.2.1.2.2.2.2.2.2.2.2.1],.row .node 34 x.2.2.1,.view .i64 x.2.2.2.1,.bag [.map] 94 x.2.2.2.2.1]⟩)) r
def zas_L:Nat→SubQ:=tblL [(0,zas_l0)]
theorem zas_sub0:qBr zas_L zas_G 4 11 35 0 zas_b0:=qAu (show zas_L 0=zas_l0 from by kernel_rfl) fun x R kn kx kr=>qAs (step:=fun y=>qB3 x.1.2.1 x.1.2.2.2.1 y.1 x.2.1.1 y.2 x.2.1.2.2.1 x.2.1.2.2.2.2.2.2.1 x.2.1.2.2.2.2.2.2.2.1 x.2.1.2.2.2.2.2.2.2.2.1 x.2.2.1 x.2.2.2.1 x.2.2.2.2.1) (enc:=fun (y:Int × Int)=>zas_d0.e ((x.1.1,x.1.2.1,x.1.2.2.1,x.1.2.2.2.1,y.1,x.1.2.2.2.2.2),((x.2.1.1,y.2,x.2.1.2.2),x.2.2))) (fun y=>by kernel_rfl) (fun y ki=>by simp only [qB3,-eq_self,qAd,qAg,obA,obS,slL,slR,qAc]; kernel_rfl) (x.1.2.2.2.2.1,x.2.1.2.1)
theorem zas_subs:qAo zas_L zas_G 4 11 35 zas_q:=qAk (show qAp zas_L zas_G 4 11 35 [(0,zas_b0)] from ⟨zas_sub0,tV⟩)
def zas_da:=(qAb (dVC (dCO (dH 0 0))) (qAb (dVC (dCO dS)) (qAb (dVC (dCO dZ)) dNil)))
def zas_db:=(qAb qDd (qAb (dRow .node 34) zDJP2))
def zas_c:CS:=mkC zas_da zas_db (fun x y=>zas_s (⟨y.1.1,y.1.2.1,y.1.2.2.1,y.2.1,y.2.2.1,y.2.2.2.1,y.1.2.2.2.2.2.2.1,y.1.2.2.2.2.2.2.2.1,y.1.2.2.2.2.2.2.2.2.1⟩:json_reader) x.2.1 x.2.2.1) (fun x y r=>.c (.o (.vB r.2))) fun x y r=>[.cells 62 [.vS r.1.text,.vI r.1.at_,.vI r.1.state,.own 4,.own 2,.bsl 3,.vS r.1.key,.vI r.1.code,.vI r.1.bad],.dead,.view .i64 y.2.2.1,.bag [.map] 94 r.1.names,.row .node 34 r.1.out]
theorem zas_val:qAl Tryd.prog 59 zas_c:=qAm zas_chk 11 zas_Gok 4 (fun x=>Nat.le_of_ble_eq_true rfl) (fun y=>rfl) zas_subs fun x y=>by
 simp only [zas_s,-eq_self,qAd,qAg,obA,obS,slL,slR,qAc];kernel_rfl
def zas_w:CQ:=qBj [(0,some 3,some (.node,34)),(0,some 4,some (.i64,3)),(0,some 5,some ((.bag [.map]),94))] (qCk [true,true,false,true] zas_c)
theorem zas_ok:qAe Tryd.prog 59 zas_w:=qAr zas_val
def zbd_q:IQ:=(.seq (rg 4 [oP 4 (.mv vF)]) (.seq (.block 0 (.seq (rg 7 [oM 8 t1,oP 9 (.bi .eql t8 (vC 91)),oM 10 t9,oE 11 (.mv t1) 10,oE 12 (.bi .eql t11 (vC 123)) 10,oP 13 (.pick t10 vT t12),oM 7 t13]) (.cond t7 (.seq (rg 4 [oM 14 t0,oM 15 t1,oP 16 (.call 55 [t14,t15]),oM 4 t16]) (.canon [(1000000,some 3,.u8,0),(3000001,none,.u8,0),(1000000,some 4,.u8,0),(3000002,none,.u8,0),(1000000,some 5,.u8,0),(3000003,none,.u8,0)] [4] .ret)) (.seq (rg 17 [oM 18 t1,oP 19 (.bi .eql t18 (vC 34)),oM 17 t19]) (.cond t17 (.seq (rg 6 [oM 21 t0,oP 22 (.call 56 [t21]),oM 20 t22,oP 23 (.extract t20 0),oP 24 (.extract t20 1),oM 5 t23,oM 6 t24]) (.seq (.seq (rg 25 [oM 25 t6]) (.cond t25 (.seq (rg 29 [oM 26 t0,oM 27 t5,oP 28 (.build [.int .i64 0,.string ⟨#[]⟩,.string ⟨#[]⟩,.bool false,.int .i64 0,.int .i64 0] [(0,1,(vI 5)),(2,1,t27)]),oP 29 (.call 57 [t26,t28])]) (rg 31 [oM 30 t0,oP 31 (.call 54 [t30])])) .skip)) (.seq (rg 4 [oM 32 t6,oM 4 t32]) (.canon [(1000000,some 3,.u8,0),(3000001,none,.u8,0),(1000000,some 4,.u8,0),(3000002,none,.u8,0),(1000000,some 5,.u8,0),(3000003,none,.u8,0)] [4] .ret)))) (.seq (rg 33 [oM 34 t1,oP 35 (.bi .eql t34 (vC 45)),oM 36 t35,oE 37 (.mv t1) 36,oE 38 (.bi .geq t37 (vC 48)) 36,oE 39 (.mv t38) 36,oF 40 (.mv t1) 39,oF 41 (.bi .leq t40 (vC 57)) 39,oE 42 (.pick t39 t41 vF) 36,oP 43 (.pick t36 vT t42),oM 33 t43]) (.cond t33 (.seq (rg 4 [oM 44 t0,oP 45 (.call 58 [t44]),oM 4 t45]) (.canon [(1000000,some 3,.u8,0),(3000001,none,.u8,0),(1000000,some 4,.u8,0),(3000002,none,.u8,0),(1000000,some 5,.u8,0),(3000003,none,.u8,0)] [4] .ret)) (.seq (rg 46 [oM 47 t1,oP 48 (.bi .eql t47 (vC 110)),oM 46 t48]) (.cond t46 (.seq (rg 4 [oM 49 t0,oP 50 (.call 59 [t49,(.v (.string ⟨#[110,117,108,108]⟩)),(vI 1)]),oM 4 t50]) (.canon [(1000000,some 3,.u8,0),(3000001,none,.u8,0),(1000000,some 4,.u8,0),(3000002,none,.u8,0),(1000000,some 5,.u8,0),(3000003,none,.u8,0)] [4] .ret)) (.seq (rg 51 [oM 52 t1,oP 53 (.bi .eql t52 (vC 102)),oM 51 t53]) (.cond t51 (.seq (rg 4 [oM 54 t0,oP 55 (.call 59 [t54,(.v (.string ⟨#[102,97,108,115,101]⟩)),(vI 2)]),oM 4 t55]) (.canon [(1000000,some 3,.u8,0),(3000001,none,.u8,0),(1000000,some 4,.u8,0),(3000002,none,.u8,0),(1000000,some 5,.u8,0),(3000003,none,.u8,0)] [4] .ret)) (.seq (rg 56 [oM 57 t1,oP 58 (.bi .eql t57 (vC 116)),oM 56 t58]) (.cond t56 (.seq (rg 4 [oM 59 t0,oP 60 (.call 59 [t59,(.v (.string ⟨#[116,114,117,101]⟩)),(vI 3)]),oM 4 t60]) (.canon [(1000000,some 3,.u8,0),(3000001,none,.u8,0),(1000000,some 4,.u8,0),(3000002,none,.u8,0),(1000000,some 5,.u8,0),(3000003,none,.u8,0)] [4] .ret)) .skip))))))))))))) (.seq (rg 4 [oM 61 t0,oP 62 (.call 44 [t61]),oM 4 t62]) (.canon [(1000000,some 3,.u8,0),(3000001,none,.u8,0),(1000000,some 4,.u8,0),(3000002,none,.u8,0),(1000000,some 5,.u8,0),(3000003,none,.u8,0)] [4] .ret))))
theorem zbd_chk:chk Tryd.prog 43 []=some (zbd_q.erase,[.tmp 4],63):=by kernel_rfl
def zbd_s (r_:json_reader) (c:Int):Option (json_reader × Bool) :=
 bif ((decide (c=(91:Int))) || (decide (c=(123:Int)))) then (
  (zak_s r_ c).bind fun r10 =>
  some (r10.1,r10.2))
 else (
  bif decide (c=(34:Int)) then (
   (zaz_s r_).bind fun r11 =>
   bif r11.2.2 then (
    (zar_s {r11.1 with out:=r_.out,open_:=r_.open_:json_reader} (⟨(5:Int),(⟨#[]⟩:BA),r11.2.1,false,(0:Int),(0:Int)⟩:Eng.Node)).bind fun r12 =>
    (zal_s {r12 with open_:=r_.open_:json_reader}).bind fun r13 =>
    some ({r13 with out:=r12.out,open_:=r_.open_:json_reader},r11.2.2))
   else (
    some ({r11.1 with out:=r_.out,open_:=r_.open_:json_reader},r11.2.2)))
  else (
   bif ((decide (c=(45:Int))) || ((decide ((48:Int)≤c)) && (decide (c≤(57:Int))))) then (
    (zaw_s r_).bind fun r14 =>
    some ({r14.1 with open_:=r_.open_:json_reader},r14.2))
   else (
    bif decide (c=(110:Int)) then (
     (zas_s r_ (⟨#[110,117,108,108]⟩:BA) (1:Int)).bind fun r15 =>
     some ({r15.1 with open_:=r_.open_:json_reader},r15.2))
    else (
     bif decide (c=(102:Int)) then (
      (zas_s r_ (⟨#[102,97,108,115,101]⟩:BA) (2:Int)).bind fun r16 =>
      some ({r16.1 with open_:=r_.open_:json_reader},r16.2))
     else (
      bif decide (c=(116:Int)) then (
       (zas_s r_ (⟨#[116,114,117,101]⟩:BA) (3:Int)).bind fun r17 =>
       some ({r17.1 with open_:=r_.open_:json_reader},r17.2))
      else (
       (zax_s r_).bind fun r18 =>
       some ({r18.1 with out:=r_.out,open_:=r_.open_:json_reader},r18.2)))))))
def zbd_G:Nat→Option CQ:=tblQ [(55,zak_w),(56,zaz_w),(57,zar_w),(54,zal_w),(58,zaw_w),(59,zas_w),(44,zax_w)]
theorem zbd_Gok:∀f C,zbd_G f=some C→qAe Tryd.prog f C:=qAi ⟨zak_ok,zaz_ok,zar_ok,zal_ok,zaw_ok,zas_ok,zax_ok,tV⟩
def zbd_L:Nat→SubQ:=tblL []
theorem zbd_subs:qAo zbd_L zbd_G 4 7 63 zbd_q:=qAk (show qAp zbd_L zbd_G 4 7 63 [] from tV)
def zbd_da:=(qAb (dVC (dCO (dH 0 0))) zDJP7)
def zbd_db:=(qAb qDd (qAb (dRow .node 34) zDJP3))
def zbd_c:CS:=mkC zbd_da zbd_db (fun x y=>zbd_s (⟨y.1.1,y.1.2.1,y.1.2.2.1,y.2.1,y.2.2.1,y.2.2.2.1,y.1.2.2.2.2.2.2.1,y.1.2.2.2.2.2.2.2.1,y.1.2.2.2.2.2.2.2.2.1⟩:json_reader) x.2.1) (fun x y r=>.c (.o (.vB r.2))) fun x y r=>[.cells 62 [.vS r.1.text,.vI r.1.at_,.vI r.1.state,.own 4,.own 5,.bsl 6,.vS r.1.key,.vI r.1.code,.vI r.1.bad],.dead,.dead,.dead,.row .node 34 r.1.out,.row .i64 3 r.1.open_,.bag [.map] 94 r.1.names]
theorem zbd_val:qAl Tryd.prog 43 zbd_c:=qAm zbd_chk 7 zbd_Gok 4 (fun x=>Nat.le_of_ble_eq_true rfl) (fun y=>rfl) zbd_subs fun x y=>by
 simp only [zbd_s,-eq_self,qAd,qAg,obA,obS,slL,slR,qAc];kernel_rfl
def zbd_w:CQ:=qBj [(0,some 3,some (.node,34)),(0,some 4,some (.i64,3)),(0,some 5,some ((.bag [.map]),94))] (qCk [true,true,true,true] zbd_c)
theorem zbd_ok:qAe Tryd.prog 43 zbd_w:=qAr zbd_val
def zau_q:IQ:=(.seq (rg 2 [oP 2 (.mv vF)]) (.seq (rg 3 (rF 7 t0 1++[oM 3 t10])) (.seq (rg 5 [oM 12 t0,oP 13 (.call 56 [t12]),oM 11 t13,oP 14 (.extract t11 0),oP 15 (.extract t11 1),oM 4 t14,oM 5 t15]) (.seq (.seq (rg 17 [oM 16 t5,oP 17 (.un .not t16)]) (.cond t17 (.seq (rg 2 [oP 2 (.mv vF)]) (.cn [2] .ret)) .skip)) (.seq (.reg 6 (some [0,1,2,3,4,5,6,7,8,9,10,11,12]) (rF 18 t0 5++rF 22 t0 5++[oP 26 (.len t25),oP 27 (.bi .sub t26 (vI 1)),oP 28 (.iaddr 1 t21 t27),oP 29 (.load none t28),oM 6 t29])) (.seq (.seq (rg 33 [oM 30 t6,oM 31 t4,oP 32 (.ext .mget [t30,t31]),oP 33 (.bi .gtr t32 (vI 0))]) (.cond t33 (.seq (rg 2 [oM 34 t0,oM 35 t3,oP 36 (.call 60 [t34,(vI 34),t35]),oM 2 t36]) (.cn [2] .ret)) .skip)) (.seq (rg 0 [oM 37 t6,oM 38 t4,oN (.ext .mput [t37,t38,(vI 1)])]) (.seq (rg 0 ([oM 39 t0,oM 40 t4]++rS 41 t39 6 t40)) (.seq (rg 0 ([oM 43 t0]++rS 44 t43 2 (vI 4))) (.seq (rg 2 [oP 2 (.mv vT)]) (.cn [2] .ret)))))))))))
theorem zau_chk:chk Tryd.prog 45 []=some (zau_q.erase,[.tmp 2],46):=by kernel_rfl
def zau_s (r_:json_reader):Option (json_reader × Bool) :=
 (zaz_s r_).bind fun r2 =>
 bif (!r2.2.2) then (
  some ({r2.1 with out:=r_.out,open_:=r_.open_:json_reader},false))
 else (
  gd (qAj ((r2.1.names.length:Int) - (1:Int))) <|
  gd (0≤((r2.1.names.length:Int) - (1:Int))∧((r2.1.names.length:Int) - (1:Int))<r2.1.names.length) <|
  gd ((Int.toNat ((r2.1.names.length:Int) - (1:Int)))<r2.1.names.length) <|
  gd ((Int.toNat ((r2.1.names.length:Int) - (1:Int)))<r2.1.names.length) <|
  bif decide ((0:Int)<(mget ((r2.1.names.getD (Int.toNat ((r2.1.names.length:Int) - (1:Int))) (NT.dft [.map])).1) r2.2.1)) then (
   (zaq_s {r2.1 with out:=r_.out,open_:=r_.open_:json_reader} (34:Int) r_.at_).bind fun r3 =>
   some ({r3.1 with out:=r_.out,open_:=r_.open_:json_reader},r3.2))
  else (
   gd ((Int.toNat ((r2.1.names.length:Int) - (1:Int)))<r2.1.names.length) <|
   gd (((r2.1.names.getD (Int.toNat ((r2.1.names.length:Int) - (1:Int))) (NT.dft [.map])).1).isSome=true) <|
   some ((⟨r2.1.text,r2.1.at_,(4:Int),r_.out,r_.open_,(r2.1.names.set (Int.toNat ((r2.1.names.length:Int) - (1:Int))) ((mput ((r2.1.names.getD (Int.toNat ((r2.1.names.length:Int) - (1:Int))) (NT.dft [.map])).1) r2.2.1 (1:Int)),(r2.1.names.getD (Int.toNat ((r2.1.names.length:Int) - (1:Int))) (NT.dft [.map])).2)),r2.2.1,r2.1.code,r2.1.bad⟩:json_reader),true)))
def zau_G:Nat→Option CQ:=tblQ [(56,zaz_w),(60,zaq_w)]
theorem zau_Gok:∀f C,zau_G f=some C→qAe Tryd.prog f C:=qAi ⟨zaz_ok,zaq_ok,tV⟩
def zau_L:Nat→SubQ:=tblL []
theorem zau_subs:qAo zau_L zau_G 4 7 46 zau_q:=qAk (show qAp zau_L zau_G 4 7 46 [] from tV)
def zau_da:=(qAb (dVC (dCO (dH 0 0))) dNil)
def zau_db:=(qAb qDd (qAb (qA9 .node) zDJP2))
def zau_c:CS:=mkC zau_da zau_db (fun x y=>zau_s (⟨y.1.1,y.1.2.1,y.1.2.2.1,y.2.1,y.2.2.1,y.2.2.2.1,y.1.2.2.2.2.2.2.1,y.1.2.2.2.2.2.2.2.1,y.1.2.2.2.2.2.2.2.2.1⟩:json_reader)) (fun x y r=>.c (.o (.vB r.2))) fun x y r=>[.cells 62 [.vS r.1.text,.vI r.1.at_,.vI r.1.state,.own 1,.own 2,.bsl 3,.vS r.1.key,.vI r.1.code,.vI r.1.bad],.view .node y.2.1,.view .i64 y.2.2.1,.bag [.map] 94 r.1.names]
theorem zau_val:qAl Tryd.prog 45 zau_c:=qAm zau_chk 7 zau_Gok 4 (fun x=>Nat.le_of_ble_eq_true rfl) (fun y=>rfl) zau_subs fun x y=>by
 simp only [zau_s,-eq_self,qAd,qAg,obA,obS,slL,slR,qAc];kernel_rfl
def zau_w:CQ:=qBj [(0,some 3,some (.node,34)),(0,some 4,some (.i64,3)),(0,some 5,some ((.bag [.map]),94))] (qCk [true,false,false,true] zau_c)
theorem zau_ok:qAe Tryd.prog 45 zau_w:=qAr zau_val
def zat_q:IQ:=(.seq (rg 4 [oP 4 (.mv vF)]) (.seq (.reg 5 (some [0,1,2,3,4,5,6,7,8,9,10,11,12,13,14,15,16,17,18,19,20]) (rF 6 t0 3++rF 10 t0 4++rF 14 t0 4++[oP 18 (.len t17),oP 19 (.bi .sub t18 (vI 1)),oP 20 (.iaddr 1 t13 t19),oP 21 (.load none t20),oP 22 (.iaddr 6 t9 t21),oP 23 (.faddr 0 t22),oP 24 (.load none t23),oP 25 (.bi .eql t24 (vI 7)),oM 5 t25])) (.seq (.block 0 (.seq (rg 28 [oM 29 t1,oP 30 (.bi .eql t29 (vC 44)),oM 31 t30,oF 32 (.mv t5) 31,oP 33 (.pick t31 t32 vF),oM 28 t33]) (.cond t28 (rg 0 ([oM 34 t0]++rS 35 t34 2 (vI 2))) (.seq (rg 37 [oM 38 t1,oP 39 (.bi .eql t38 (vC 44)),oM 37 t39]) (.cond t37 (rg 0 ([oM 40 t0]++rS 41 t40 2 (vI 0))) (.seq (rg 43 [oM 44 t1,oP 45 (.bi .eql t44 (vC 125)),oM 46 t45,oF 47 (.mv t5) 46,oP 48 (.pick t46 t47 vF),oM 49 t48,oE 50 (.mv t1) 49,oE 51 (.bi .eql t50 (vC 93)) 49,oE 52 (.mv t51) 49,oF 53 (.mv t5) 52,oF 54 (.un .not t53) 52,oE 55 (.pick t52 t54 vF) 49,oP 56 (.pick t49 vT t55),oM 43 t56]) (.cond t43 (.seq (rg 4 [oM 57 t0,oP 58 (.call 42 [t57]),oM 4 t58]) (.canon [(1000000,some 4,.u8,0),(3000002,none,.u8,0),(1000000,some 5,.u8,0),(3000003,none,.u8,0)] [4] .ret)) (.seq (rg 4 [oM 26 t0,oP 27 (.call 44 [t26]),oM 4 t27]) (.canon [(1000000,some 4,.u8,0),(3000002,none,.u8,0),(1000000,some 5,.u8,0),(3000003,none,.u8,0)] [4] .ret))))))))) (.seq (rg 0 (rF 59 t0 1++[oP 63 (.bi .add t62 (vI 1))]++rS 64 t59 1 t63)) (.seq (rg 4 [oP 4 (.mv vT)]) (.canon [(1000000,some 4,.u8,0),(3000002,none,.u8,0),(1000000,some 5,.u8,0),(3000003,none,.u8,0)] [4] .ret))))))
theorem zat_chk:chk Tryd.prog 46 []=some (zat_q.erase,[.tmp 4],66):=by kernel_rfl
def zat_s (r_:json_reader) (c:Int):Option (json_reader × Bool) :=
 gd (qAj ((r_.open_.length:Int) - (1:Int))) <|
 gd (0≤((r_.open_.length:Int) - (1:Int))∧((r_.open_.length:Int) - (1:Int))<r_.open_.length) <|
 gd ((Int.toNat ((r_.open_.length:Int) - (1:Int)))<r_.open_.length) <|
 gd (0≤(r_.open_.getD (Int.toNat ((r_.open_.length:Int) - (1:Int))) (ET.dft .i64))∧(r_.open_.getD (Int.toNat ((r_.open_.length:Int) - (1:Int))) (ET.dft .i64))<r_.out.length) <|
 gd ((Int.toNat (r_.open_.getD (Int.toNat ((r_.open_.length:Int) - (1:Int))) (ET.dft .i64)))<r_.out.length) <|
 gd ((Int.toNat (r_.open_.getD (Int.toNat ((r_.open_.length:Int) - (1:Int))) (ET.dft .i64)))<r_.out.length) <|
 bif ((decide (c=(44:Int))) && (decide (((r_.out.getD (Int.toNat (r_.open_.getD (Int.toNat ((r_.open_.length:Int) - (1:Int))) (ET.dft .i64))) (ET.dft .node)).kind)=(7:Int)))) then (
  gd (qAj (r_.at_+(1:Int))) <|
  some ({r_ with at_:=(r_.at_+(1:Int)),state:=(2:Int):json_reader},true))
 else (
  bif decide (c=(44:Int)) then (
   gd (qAj (r_.at_+(1:Int))) <|
   some ({r_ with at_:=(r_.at_+(1:Int)),state:=(0:Int):json_reader},true))
  else (
   bif (((decide (c=(125:Int))) && (decide (((r_.out.getD (Int.toNat (r_.open_.getD (Int.toNat ((r_.open_.length:Int) - (1:Int))) (ET.dft .i64))) (ET.dft .node)).kind)=(7:Int)))) || ((decide (c=(93:Int))) && (!(decide (((r_.out.getD (Int.toNat (r_.open_.getD (Int.toNat ((r_.open_.length:Int) - (1:Int))) (ET.dft .i64))) (ET.dft .node)).kind)=(7:Int)))))) then (
    (zao_s r_).bind fun r2 =>
    some ({r2.1 with out:=r_.out:json_reader},r2.2))
   else (
    (zax_s r_).bind fun r3 =>
    some ({r3.1 with out:=r_.out,open_:=r_.open_:json_reader},r3.2))))
def zat_G:Nat→Option CQ:=tblQ [(42,zao_w),(44,zax_w)]
theorem zat_Gok:∀f C,zat_G f=some C→qAe Tryd.prog f C:=qAi ⟨zao_ok,zax_ok,tV⟩
def zat_L:Nat→SubQ:=tblL []
theorem zat_subs:qAo zat_L zat_G 4 6 66 zat_q:=qAk (show qAp zat_L zat_G 4 6 66 [] from tV)
def zat_da:=(qAb (dVC (dCO (dH 0 0))) zDJP7)
def zat_db:=(qAb qDd (qAb (qA9 .node) zDJP3))
def zat_c:CS:=mkC zat_da zat_db (fun x y=>zat_s (⟨y.1.1,y.1.2.1,y.1.2.2.1,y.2.1,y.2.2.1,y.2.2.2.1,y.1.2.2.2.2.2.2.1,y.1.2.2.2.2.2.2.2.1,y.1.2.2.2.2.2.2.2.2.1⟩:json_reader) x.2.1) (fun x y r=>.c (.o (.vB r.2))) fun x y r=>[.cells 62 [.vS r.1.text,.vI r.1.at_,.vI r.1.state,.own 1,.own 4,.bsl 5,.vS r.1.key,.vI r.1.code,.vI r.1.bad],.view .node y.2.1,.dead,.dead,.row .i64 3 r.1.open_,.bag [.map] 94 r.1.names]
theorem zat_val:qAl Tryd.prog 46 zat_c:=qAm zat_chk 6 zat_Gok 4 (fun x=>Nat.le_of_ble_eq_true rfl) (fun y=>rfl) zat_subs fun x y=>by
 simp only [zat_s,-eq_self,qAd,qAg,obA,obS,slL,slR,qAc];kernel_rfl
def zat_w:CQ:=qBj [(0,some 3,some (.node,34)),(0,some 4,some (.i64,3)),(0,some 5,some ((.bag [.map]),94))] (qCk [true,false,true,true] zat_c)
theorem zat_ok:qAe Tryd.prog 46 zat_w:=qAr zat_val
def zbb_b0:IQ:=(.seq (.seq (.seq (rg 34 [oM 33 t3,oP 34 (.bi .neq t33 (vC 34))]) (.cond t34 (.seq (rg 2 [oM 35 t0,oP 36 (.call 44 [t35]),oM 2 t36]) (.canon [(1000000,some 3,.u8,0),(3000001,none,.u8,0),(1000000,some 4,.u8,0),(3000002,none,.u8,0),(1000000,some 5,.u8,0),(3000003,none,.u8,0)] [2] .ret)) .skip)) (.seq (rg 2 [oM 37 t0,oP 38 (.call 45 [t37]),oM 2 t38]) (.canon [(1000000,some 3,.u8,0),(3000001,none,.u8,0),(1000000,some 4,.u8,0),(3000002,none,.u8,0),(1000000,some 5,.u8,0),(3000003,none,.u8,0)] [2] .ret))) (.exit 0))
def zbb_q:IQ:=(.seq (rg 2 [oP 2 (.mv vF)]) (.seq (rg 3 [oM 4 t0,oP 5 (.call 41 [t4]),oM 3 t5]) (.seq (.seq (rg 9 (rF 6 t0 2)) (.block 0 (.seq (.block 6 (.seq (.block 5 (.seq (.block 4 (.seq (.block 3 (.seq (.block 2 (.seq (.block 1 (.seq (.seq (.seq (rg 10 [oP 11 (.bi .eql t9 (vI 1)),oM 10 t11]) (.cond t10 (.exit 1) .skip)) (.seq (.seq (rg 12 [oP 13 (.bi .eql t9 (vI 0)),oM 12 t13]) (.cond t12 (.exit 2) .skip)) (.seq (.seq (rg 14 [oP 15 (.bi .eql t9 (vI 3)),oM 14 t15]) (.cond t14 (.exit 3) .skip)) (.seq (.seq (rg 16 [oP 17 (.bi .eql t9 (vI 2)),oM 16 t17]) (.cond t16 (.exit 4) .skip)) (.seq (.seq (rg 18 [oP 19 (.bi .eql t9 (vI 4)),oM 18 t19]) (.cond t18 (.exit 5) .skip)) (.seq (rg 20 [oP 21 (.bi .eql t9 (vI 5)),oM 20 t21]) (.cond t20 (.exit 6) .skip))))))) (.exit 0))) (.seq (rg 23 [oM 22 t3,oP 23 (.bi .eql t22 (vC 93))]) (.cond t23 (.seq (rg 2 [oM 24 t0,oP 25 (.call 42 [t24]),oM 2 t25]) (.canon [(1000000,some 3,.u8,0),(3000001,none,.u8,0),(1000000,some 4,.u8,0),(3000002,none,.u8,0),(1000000,some 5,.u8,0),(3000003,none,.u8,0)] [2] .ret)) .skip)))) (.seq (.seq (rg 2 [oM 26 t0,oM 27 t3,oP 28 (.call 43 [t26,t27]),oM 2 t28]) (.canon [(1000000,some 3,.u8,0),(3000001,none,.u8,0),(1000000,some 4,.u8,0),(3000002,none,.u8,0),(1000000,some 5,.u8,0),(3000003,none,.u8,0)] [2] .ret)) (.exit 0)))) (.seq (rg 30 [oM 29 t3,oP 30 (.bi .eql t29 (vC 125))]) (.cond t30 (.seq (rg 2 [oM 31 t0,oP 32 (.call 42 [t31]),oM 2 t32]) (.canon [(1000000,some 3,.u8,0),(3000001,none,.u8,0),(1000000,some 4,.u8,0),(3000002,none,.u8,0),(1000000,some 5,.u8,0),(3000003,none,.u8,0)] [2] .ret)) .skip)))) (.cn [0,3] (.sub 0 zbb_b0)))) (.seq (.seq (.seq (rg 40 [oM 39 t3,oP 40 (.bi .neq t39 (vC 58))]) (.cond t40 (.seq (rg 2 [oM 41 t0,oP 42 (.call 44 [t41]),oM 2 t42]) (.canon [(1000000,some 3,.u8,0),(3000001,none,.u8,0),(1000000,some 4,.u8,0),(3000002,none,.u8,0),(1000000,some 5,.u8,0),(3000003,none,.u8,0)] [2] .ret)) .skip)) (.seq (rg 0 (rF 43 t0 1++[oP 47 (.bi .add t46 (vI 1))]++rS 48 t43 1 t47)) (.seq (rg 0 ([oM 50 t0]++rS 51 t50 2 (vI 0))) (.seq (rg 2 [oP 2 (.mv vT)]) (.canon [(1000000,some 3,.u8,0),(3000001,none,.u8,0),(1000000,some 4,.u8,0),(3000002,none,.u8,0),(1000000,some 5,.u8,0),(3000003,none,.u8,0)] [2] .ret))))) (.exit 0)))) (.seq (.seq (rg 2 [oM 53 t0,oM 54 t3,oP 55 (.call 46 [t53,t54]),oM 2 t55]) (.canon [(1000000,some 3,.u8,0),(3000001,none,.u8,0),(1000000,some 4,.u8,0),(3000002,none,.u8,0),(1000000,some 5,.u8,0),(3000003,none,.u8,0)] [2] .ret)) (.exit 0))))) (.seq (rg 2 [oM 56 t0,oP 57 (.call 44 [t56]),oM 2 t57]) (.canon [(1000000,some 3,.u8,0),(3000001,none,.u8,0),(1000000,some 4,.u8,0),(3000002,none,.u8,0),(1000000,some 5,.u8,0),(3000003,none,.u8,0)] [2] .ret)))))
theorem zbb_chk:chk Tryd.prog 25 []=some (zbb_q.erase,[.tmp 2],58):=by kernel_rfl
def zbb_p0 (c:Int) (qF3:BA) (qF4 qF6:Int) (qGa:BA) (qF8 qGb:Int) (qF9:List Eng.Node) (qF5:List Int) (qF7:List (MapC × Unit)):Option (Bool × BA × Int × Int × BA × Int × Int × (List (MapC × Unit))) :=
 bif (!decide (c=(34:Int))) then (
  (zax_s (⟨qF3,qF4,qF6,qF9,qF5,qF7,qGa,qF8,qGb⟩:json_reader)).bind fun r14 =>
  some (r14.2,r14.1.text,r14.1.at_,r14.1.state,r14.1.key,r14.1.code,r14.1.bad,r14.1.names))
 else (
  (zau_s (⟨qF3,qF4,qF6,qF9,qF5,qF7,qGa,qF8,qGb⟩:json_reader)).bind fun r15 =>
  some (r15.2,r15.1.text,r15.1.at_,r15.1.state,r15.1.key,r15.1.code,r15.1.bad,r15.1.names))
def zbb_s (r_:json_reader):Option (json_reader × Bool) :=
 (zav_s r_).bind fun r9 =>
 bif decide (r_.state=(1:Int)) then (
  bif decide (r9=(93:Int)) then (
   (zao_s r_).bind fun r10 =>
   some ({r10.1 with out:=r_.out:json_reader},r10.2))
  else (
   (zbd_s r_ r9).bind fun r11 =>
   some (r11.1,r11.2)))
 else (
  bif decide (r_.state=(0:Int)) then (
   (zbd_s r_ r9).bind fun r12 =>
   some (r12.1,r12.2))
  else (
   bif decide (r_.state=(3:Int)) then (
    bif decide (r9=(125:Int)) then (
     (zao_s r_).bind fun r13 =>
     some ({r13.1 with out:=r_.out:json_reader},r13.2))
    else (
     (zbb_p0 r9 r_.text r_.at_ r_.state r_.key r_.code r_.bad r_.out r_.open_ r_.names).bind fun o16 =>
     some ((⟨o16.2.1,o16.2.2.1,o16.2.2.2.1,r_.out,r_.open_,o16.2.2.2.2.2.2.2,o16.2.2.2.2.1,o16.2.2.2.2.2.1,o16.2.2.2.2.2.2.1⟩:json_reader),o16.1)))
   else (
    bif decide (r_.state=(2:Int)) then (
     (zbb_p0 r9 r_.text r_.at_ r_.state r_.key r_.code r_.bad r_.out r_.open_ r_.names).bind fun o17 =>
     some ((⟨o17.2.1,o17.2.2.1,o17.2.2.2.1,r_.out,r_.open_,o17.2.2.2.2.2.2.2,o17.2.2.2.2.1,o17.2.2.2.2.2.1,o17.2.2.2.2.2.2.1⟩:json_reader),o17.1))
    else (
     bif decide (r_.state=(4:Int)) then (
      bif (!decide (r9=(58:Int))) then (
       (zax_s r_).bind fun r18 =>
       some ({r18.1 with out:=r_.out,open_:=r_.open_:json_reader},r18.2))
      else (
       gd (qAj (r_.at_+(1:Int))) <|
       some ({r_ with at_:=(r_.at_+(1:Int)),state:=(0:Int):json_reader},true)))
     else (
      bif decide (r_.state=(5:Int)) then (
       (zat_s r_ r9).bind fun r19 =>
       some ({r19.1 with out:=r_.out:json_reader},r19.2))
      else (
       (zax_s r_).bind fun r20 =>
       some ({r20.1 with out:=r_.out,open_:=r_.open_:json_reader},r20.2)))))))
def zbb_G:Nat→Option CQ:=tblQ [(41,zav_w),(42,zao_w),(43,zbd_w),(44,zax_w),(45,zau_w),(46,zat_w)]
theorem zbb_Gok:∀f C,zbb_G f=some C→qAe Tryd.prog f C:=qAi ⟨zav_ok,zao_ok,zbd_ok,zax_ok,zau_ok,zat_ok,tV⟩
def zbb_d0:=(dQS (qAb (dSO 0 (dH 0 0)) (qAb (dSO 3 (dI .u8)) dNil)) (qAb qDd (qAb (dRow .node 34) zDJP3)))
def zbb_l0:SubQ:=mkL zbb_d0 (fun x=>zbb_p0 x.1.2.1 x.2.1.1 x.2.1.2.1 x.2.1.2.2.1 x.2.1.2.2.2.2.2.2.1 x.2.1.2.2.2.2.2.2.2.1 x.2.1.2.2.2.2.2.2.2.2.1 x.2.2.1 x.2.2.2.1 x.2.2.2.2.1) fun x r R kn kx kr=>kr ⟨[sL 2 (.vB r.1)],[],[.cells 62 [.vS r.2.1,.vI r.2.2.1,.vI r.2.2.2.1,.own 4,.own 5,.bsl 6,.vS r.2.2.2.2.1,.vI r.2.2.2.2.2.1,.vI r.2.2.2.2.2.2.1],.dead,.dead,.dead,.row .node 34 x.2.2.1,.row .i64 3 x.2.2.2.1,.bag [.map] 94 r.2.2.2.2.2.2.2]⟩
def zbb_L:Nat→SubQ:=tblL [(0,zbb_l0)]
theorem zbb_sub0:qBr zbb_L zbb_G 4 10 58 0 zbb_b0:=qAu (show zbb_L 0=zbb_l0 from by kernel_rfl) fun x R kn kx kr=>by
 simp only [zbb_p0,-eq_self,qAd,qAg,obA,obS,slL,slR,qAc];kernel_rfl
theorem zbb_subs:qAo zbb_L zbb_G 4 10 58 zbb_q:=qAk (show qAp zbb_L zbb_G 4 10 58 [(0,zbb_b0)] from ⟨zbb_sub0,tV⟩)
def zbb_da:=(qAb (dVC (dCO (dH 0 0))) dNil)
def zbb_db:=(qAb qDd (qAb (dRow .node 34) zDJP3))
def zbb_c:CS:=mkC zbb_da zbb_db (fun x y=>zbb_s (⟨y.1.1,y.1.2.1,y.1.2.2.1,y.2.1,y.2.2.1,y.2.2.2.1,y.1.2.2.2.2.2.2.1,y.1.2.2.2.2.2.2.2.1,y.1.2.2.2.2.2.2.2.2.1⟩:json_reader)) (fun x y r=>.c (.o (.vB r.2))) fun x y r=>[.cells 62 [.vS r.1.text,.vI r.1.at_,.vI r.1.state,.own 4,.own 5,.bsl 6,.vS r.1.key,.vI r.1.code,.vI r.1.bad],.dead,.dead,.dead,.row .node 34 r.1.out,.row .i64 3 r.1.open_,.bag [.map] 94 r.1.names]
theorem zbb_val:qAl Tryd.prog 25 zbb_c:=qAm zbb_chk 10 zbb_Gok 4 (fun x=>Nat.le_of_ble_eq_true rfl) (fun y=>rfl) zbb_subs fun x y=>by
 simp only [zbb_s,-eq_self,qAd,qAg,obA,obS,slL,slR,qAc];kernel_rfl
def zbb_w:CQ:=qBj [(0,some 3,some (.node,34)),(0,some 4,some (.i64,3)),(0,some 5,some ((.bag [.map]),94))] (qCk [true,true,true,true] zbb_c)
theorem zbb_ok:qAe Tryd.prog 25 zbb_w:=qAr zbb_val
def zai_b0:IQ:=(.loop [0,5] (.seq (.seq (rg 20 (rF 14 t5 1++[oM 18 t0,oP 19 (.lenS t18),oP 20 (.bi .lss t17 t19)])) (.cond t20 .skip (.cn [0,5] (.exit 0)))) (.seq (.block 1 (.seq (rg 25 [oM 23 t5,oP 24 (.call 25 [t23]),oP 25 (.un .not t24)]) (.cond t25 (.seq (.reg 4 (some [0,1,2,3,4,5,6,7,8,9,10]) (rF 26 t5 7++rF 30 t5 8++[oP 2 (.mv (.v (.slice none 0 0))),oM 3 t29,oM 4 t33])) (.canon [(2,none,.node,34)] [2,3,4] .ret)) .skip))) (rg 22 [oM 21 t5,oP 22 (.call 24 [t21])]))))
def zai_q:IQ:=(.seq (rg 4 [oP 2 (.mv (.v (.slice none 0 0))),oP 3 (.mv (vI 0)),oP 4 (.mv (vI 0))]) (.seq (.seq (rg 8 [oM 6 t0,oP 7 (.lenS t6),oP 8 (.bi .gtr t7 (vI 262144))]) (.cond t8 (.seq (rg 4 [oP 2 (.mv (.v (.slice none 0 0))),oP 3 (.mv (vI 10)),oP 4 (.mv (vI 0))]) (.canon [(2,none,.node,34)] [2,3,4] .ret)) .skip)) (.seq (rg 5 [oM 9 t0,oP 10 (.build [.string ⟨#[]⟩,.int .i64 0,.int .i64 0,.slice none 0 0,.slice none 0 0,.slice none 0 0,.string ⟨#[]⟩,.int .i64 0,.int .i64 0] [(0,1,t9)]),oP 11 (.box 62 9 t10),oM 5 t11]) (.seq (.seq (rg 13 [oM 12 t5,oP 13 (.call 24 [t12])]) (.block 0 (.cn [0,5] (.sub 0 zai_b0)))) (.seq (.seq (rg 38 (rF 34 t5 2++[oP 38 (.bi .neq t37 (vI 6))])) (.cond t38 (.seq (rg 4 [oM 39 t0,oP 40 (.lenS t39),oP 2 (.mv (.v (.slice none 0 0))),oP 3 (.mv (vI 31)),oM 4 t40]) (.canon [(2,none,.node,34)] [2,3,4] .ret)) .skip)) (.seq (rg 4 (rF 41 t5 3++[oM 2 t44,oP 3 (.mv (vI 0)),oP 4 (.mv (vI 0))])) (.canon [(2,none,.node,34)] [2,3,4] .ret)))))))
theorem zai_chk:chk Tryd.prog 8 []=some (zai_q.erase,[.tmp 2,.tmp 3,.tmp 4],45):=by kernel_rfl
def qB2 (text qF3:BA) (qF4 qF6:Int) (qGa:BA) (qF8 qGb:Int) (qF9:List Eng.Node) (qF5:List Int) (qF7:List (MapC × Unit)):Option ((BA × Int × Int × BA × Int × Int × (List Eng.Node) × (List Int) × (List (MapC × Unit))) ⊕ ((Int × Int × (List Eng.Node)) ⊕ (BA × Int × Int × BA × Int × Int × (List Eng.Node) × (List Int) × (List (MapC × Unit))))) :=
 bif decide (qF4<(text.size:Int)) then (
  (zbb_s (⟨qF3,qF4,qF6,qF9,qF5,qF7,qGa,qF8,qGb⟩:json_reader)).bind fun r29 =>
  bif (!r29.2) then (
   some (.inr (.inl (r29.1.code,r29.1.bad,[]))))
  else (
   (zam_s r29.1).bind fun r30 =>
   some (.inl (r30.text,r30.at_,r30.state,r30.key,r30.code,r30.bad,r29.1.out,r29.1.open_,r30.names))))
 else (
  some (.inr (.inr (qF3,qF4,qF6,qGa,qF8,qGb,qF9,qF5,qF7))))
def zai_p0 (text qF3:BA) (qF4 qF6:Int) (qGa:BA) (qF8 qGb:Int) (qF9:List Eng.Node) (qF5:List Int) (qF7:List (MapC × Unit)):Option ((Int × Int × (List Eng.Node)) ⊕ (BA × Int × Int × BA × Int × Int × (List Eng.Node) × (List Int) × (List (MapC × Unit)))) :=
 qBh (fun x:(BA × Int × Int × BA × Int × Int × (List Eng.Node) × (List Int) × (List (MapC × Unit)))=>qB2 text x.1 x.2.1 x.2.2.1 x.2.2.2.1 x.2.2.2.2.1 x.2.2.2.2.2.1 x.2.2.2.2.2.2.1 x.2.2.2.2.2.2.2.1 x.2.2.2.2.2.2.2.2) (qF3,qF4,qF6,qGa,qF8,qGb,qF9,qF5,qF7)
def zai_s (text:BA):Option ((List Eng.Node) × Int × Int) :=
 bif decide ((262144:Int)<(text.size:Int)) then (
  some ([],(10:Int),(0:Int)))
 else (
  (zam_s (⟨text,(0:Int),(0:Int),[],[],[],(⟨#[]⟩:BA),(0:Int),(0:Int)⟩:json_reader)).bind fun r28 =>
  (zai_p0 text r28.text r28.at_ r28.state r28.key r28.code r28.bad [] [] r28.names).bind fun o31=>(Sum.elim (fun (o31_0:Int × Int × (List Eng.Node)) =>
   some (o31_0.2.2,o31_0.1,o31_0.2.1)) (fun (o31_1:BA × Int × Int × BA × Int × Int × (List Eng.Node) × (List Int) × (List (MapC × Unit))) =>
   bif (!decide (o31_1.2.2.1=(6:Int))) then (
    some ([],(31:Int),(text.size:Int)))
   else (
    some (o31_1.2.2.2.2.2.2.1,(0:Int),(0:Int))))) o31)
def zai_G:Nat→Option CQ:=tblQ [(24,zam_w),(25,zbb_w)]
theorem zai_Gok:∀f C,zai_G f=some C→qAe Tryd.prog f C:=qAi ⟨zam_ok,zbb_ok,tV⟩
def zai_d0:=(dQS (qAb (dSO 0 dS) (qAb (dSO 5 (dH 0 0)) dNil)) (qAb qDd (qAb (dRow .node 34) zDJP3)))
def zai_l0:SubQ:=mkL zai_d0 (fun x=>zai_p0 x.1.1 x.2.1.1 x.2.1.2.1 x.2.1.2.2.1 x.2.1.2.2.2.2.2.2.1 x.2.1.2.2.2.2.2.2.2.1 x.2.1.2.2.2.2.2.2.2.2.1 x.2.2.1 x.2.2.2.1 x.2.2.2.2.1) fun x r R kn kx kr=>(Sum.elim (fun (r_0:Int × Int × (List Eng.Node))=>kr ⟨[sL 2 (.own 0),sL 3 (.vI r_0.1),sL 4 (.vI r_0.2.1)],[],[.row .node 34 r_0.2.2]⟩) (fun (r_1:BA × Int × Int × BA × Int × Int × (List Eng.Node) × (List Int) × (List (MapC × Unit)))=>kx 0 ⟨[sL 0 (.vS x.1.1),sL 5 (.hd 0 0)],[],[.cells 62 [.vS r_1.1,.vI r_1.2.1,.vI r_1.2.2.1,.own 1,.own 2,.bsl 3,.vS r_1.2.2.2.1,.vI r_1.2.2.2.2.1,.vI r_1.2.2.2.2.2.1],.row .node 34 r_1.2.2.2.2.2.2.1,.row .i64 3 r_1.2.2.2.2.2.2.2.1,.bag [.map] 94 r_1.2.2.2.2.2.2.2.2]⟩)) r
def zai_L:Nat→SubQ:=tblL [(0,zai_l0)]
theorem zai_sub0:qBr zai_L zai_G 0 6 45 0 zai_b0:=qAu (show zai_L 0=zai_l0 from by kernel_rfl) fun x R kn kx kr=>qAs (step:=fun y=>qB2 x.1.1 y.1 y.2.1 y.2.2.1 y.2.2.2.1 y.2.2.2.2.1 y.2.2.2.2.2.1 y.2.2.2.2.2.2.1 y.2.2.2.2.2.2.2.1 y.2.2.2.2.2.2.2.2) (enc:=fun (y:BA × Int × Int × BA × Int × Int × (List Eng.Node) × (List Int) × (List (MapC × Unit)))=>zai_d0.e (x.1,((y.1,y.2.1,y.2.2.1,x.2.1.2.2.2.1,x.2.1.2.2.2.2.1,x.2.1.2.2.2.2.2.1,y.2.2.2.1,y.2.2.2.2.1,y.2.2.2.2.2.1,x.2.1.2.2.2.2.2.2.2.2.2),y.2.2.2.2.2.2.1,y.2.2.2.2.2.2.2.1,y.2.2.2.2.2.2.2.2,x.2.2.2.2.2))) (fun y=>by kernel_rfl) (fun y ki=>by simp only [qB2,-eq_self,qAd,qAg,obA,obS,slL,slR,qAc]; kernel_rfl) (x.2.1.1,x.2.1.2.1,x.2.1.2.2.1,x.2.1.2.2.2.2.2.2.1,x.2.1.2.2.2.2.2.2.2.1,x.2.1.2.2.2.2.2.2.2.2.1,x.2.2.1,x.2.2.2.1,x.2.2.2.2.1)
theorem zai_subs:qAo zai_L zai_G 0 6 45 zai_q:=qAk (show qAp zai_L zai_G 0 6 45 [(0,zai_b0)] from ⟨zai_sub0,tV⟩)
def zai_da:=(qAb (dVC (dCO dS)) dNil)
def zai_db:=(dNil:Dec Unit (List SB))
def zai_c:CS:=mkC zai_da zai_db (fun x y=>zai_s x.1) (fun x y r=>.tup [.o (.own 0),.o (.vI r.2.1),.o (.vI r.2.2)]) fun x y r=>[.row .node 34 r.1]
theorem zai_val:qAl Tryd.prog 8 zai_c:=qAm zai_chk 6 zai_Gok 0 (fun x=>Nat.le_of_ble_eq_true rfl) (fun y=>rfl) zai_subs fun x y=>by
 simp only [zai_s,-eq_self,qAd,qAg,obA,obS,slL,slR,qAc];kernel_rfl
def zai_w:CQ:=qCk [] zai_c
theorem zai_ok:qAe Tryd.prog 8 zai_w:=liftQ_valid zai_val
end
end Go.Proofs.YtnifdcmeffnpaaaDoor
