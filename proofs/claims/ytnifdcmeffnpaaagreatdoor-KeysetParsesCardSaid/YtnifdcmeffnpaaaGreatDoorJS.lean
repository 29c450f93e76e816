/-
  Functions as the engine reads them (printed by gen.py).
-/
import Derived.Shelf.Unicode.DecodeSlow
import Derived.WalkKit
import Derived.Below
import Derived.BigQuiet
import Derived.Shelf.Unicode.ValidAny
import Derived.Shelf.Unicode.DecodeAny
import Derived.Shelf.Lay
import Derived.Ground.NamesProg
import Derived.Test.YtnifdcmeffnpaaaGreatDoorEngO
import Derived.Test.YtnifdcmeffnpaaaGreatDoorProg
import Derived.Test.YtnifdcmeffnpaaaGreatDoorGC
namespace Go.Proofs.YtnifdcmeffnpaaaGreatDoor
open Go.Eng
set_option linter.unusedVariables false
set_option linter.unusedSimpArgs false
set_option maxRecDepth 100000
noncomputable section
def zbx_da:=(qAb (dVC (dCO (dO 0))) (qAb (dVC (dCO dZ)) dNil))
def zbx_db:=(qAb (qBi .node) dNil)
def zbx_cs (self:(List Eng.Node)→Int→Option Int):CS:=mkC zbx_da zbx_db (fun x y=>self y.1 x.2.1) (fun x y r=>.c (.o (.vI r))) fun x y r=>[.view .node y.1]
def zbx_ws (self:(List Eng.Node)→Int→Option Int):CQ:=qBm [(0,none,some (.node,34))] (qCj [false] (zbx_cs self))
def zbx_b0:IQ:=(.loop [0,1,5,6] (.seq (.seq (rg 27 [oM 17 t6,oM 18 t0,oM 19 t1,oP 20 (.iaddr 6 t18 t19),oP 21 (.faddr 5 t20),oP 22 (.load none t21),oP 23 (.bi .lss t17 t22),oM 24 t23,oF 25 (.mv t5) 24,oF 26 (.bi .geq t25 (vI 0)) 24,oP 27 (.pick t24 t26 vF)]) (.cond t27 .skip (.cn [5] (.exit 0)))) (.seq (.block 1 (rg 5 [oM 30 t0,oM 31 t5,oP 32 (.call 25 [t30,t31]),oM 5 t32])) (rg 6 [oM 28 t6,oP 29 (.bi .add t28 (vI 1)),oM 6 t29]))))
def zbx_q:IQ:=(.seq (rg 4 [oP 4 (.mv (vI 0))]) (.seq (.seq (rg 14 [oM 7 t1,oP 8 (.bi .lss t7 (vI 0)),oM 9 t8,oE 10 (.mv t1) 9,oE 11 (.mv t0) 9,oE 12 (.len t11) 9,oE 13 (.bi .geq t10 t12) 9,oP 14 (.pick t9 vT t13)]) (.cond t14 (.seq (rg 4 [oP 4 (.mv (.v (.int .i64 (-1))))]) (.cn [4] .ret)) .skip)) (.seq (rg 5 [oM 15 t1,oP 16 (.bi .add t15 (vI 1)),oM 5 t16]) (.seq (.seq (rg 6 [oP 6 (.mv (vI 0))]) (.block 0 (.cn [0,1,5,6] (.sub 0 zbx_b0)))) (.seq (rg 4 [oM 33 t5,oM 4 t33]) (.cn [4] .ret))))))
theorem zbx_chk:chk Tryz.prog 25 []=some (zbx_q.erase,[.tmp 4],34):=by kernel_rfl
def qFd (self:(List Eng.Node)→Int→Option Int) (at_ next i:Int) (v:List Eng.Node):Option ((Int × Int) ⊕ Int) :=
 gd (0≤at_∧at_<v.length) <|
 gd ((Int.toNat at_)<v.length) <|
 gd ((Int.toNat at_)<v.length) <|
 bif ((decide (i<((v.getD (Int.toNat at_) (ET.dft .node)).kids))) && (decide ((0:Int)≤next))) then (
  (self v next).bind fun r3 =>
  gd (qAe (i+(1:Int))) <|
  some (.inl (r3,(i+(1:Int)))))
 else (
  some (.inr next))
def zbx_p0 (self:(List Eng.Node)→Int→Option Int) (at_ next i:Int) (v:List Eng.Node):Option Int :=
 qA0 (fun x:(Int × Int)=>qFd self at_ x.1 x.2 v) (next,i)
def zbx_t (self:(List Eng.Node)→Int→Option Int) (v:(List Eng.Node)) (at_:Int):Option Int :=
 bif ((decide (at_<(0:Int))) || (decide ((v.length:Int)≤at_))) then (
  some (-1:Int))
 else (
  gd (qAe (at_+(1:Int))) <|
  (zbx_p0 self at_ (at_+(1:Int)) (0:Int) v).bind fun o4 =>
  some o4)
def zbx_G (self:(List Eng.Node)→Int→Option Int):Nat→Option CQ:=tblQ [(25,zbx_ws self)]
theorem zbx_Gok (self:(List Eng.Node)→Int→Option Int) (hself:qAg Tryz.prog 25 (zbx_ws self)):∀f C,(zbx_G self) f=some C→qAg Tryz.prog f C:=qAj ⟨hself,tV⟩
def zbx_d0:=(dQS (qAb (dSO 0 (dO 0)) (qAb (dSO 1 dZ) (qAb (dSO 5 dZ) (qAb (dSO 6 dZ) dNil)))) (qAb (qBi .node) dNil))
def zbx_l0 (self:(List Eng.Node)→Int→Option Int):SubQ:=mkL zbx_d0 (fun x=>zbx_p0 self x.1.2.1 x.1.2.2.1 x.1.2.2.2.1 x.2.1) fun x r R kn kx kr=>kx 0 ⟨[sL 5 (.vI r)],[],[.view .node x.2.1]⟩
def zbx_L (self:(List Eng.Node)→Int→Option Int):Nat→SubQ:=tblL [(0,zbx_l0 self)]
theorem zbx_sub0 (self:(List Eng.Node)→Int→Option Int):qA4 (zbx_L self) (zbx_G self) 1 7 34 0 zbx_b0:=qAr (show (zbx_L self) 0=(zbx_l0 self) from by kernel_rfl) fun x R kn kx kr=>qAo (step:=fun y=>qFd self x.1.2.1 y.1 y.2 x.2.1) (enc:=fun (y:Int × Int)=>zbx_d0.e ((x.1.1,x.1.2.1,y.1,y.2,x.1.2.2.2.2),x.2)) (fun y=>by kernel_rfl) (fun y ki=>by simp only [qFd,-eq_self,qAd,qAf,obA,obS,slL,slR,qAc]; kernel_rfl) (x.1.2.2.1,x.1.2.2.2.1)
theorem zbx_subs (self:(List Eng.Node)→Int→Option Int):qAn (zbx_L self) (zbx_G self) 1 7 34 zbx_q:=qAk (show qAq (zbx_L self) (zbx_G self) 1 7 34 [(0,zbx_b0)] from ⟨(zbx_sub0 self),tV⟩)
theorem zbx_val_t (self:(List Eng.Node)→Int→Option Int) (hself:qAg Tryz.prog 25 (zbx_ws self)):qAl Tryz.prog 25 (zbx_cs (zbx_t self)):=qAm zbx_chk 7 (zbx_Gok self hself) 1 (fun x=>Nat.le_of_ble_eq_true rfl) (fun y=>rfl) (zbx_subs self) fun x y=>by
 simp only [zbx_t,-eq_self,qAd,qAf,obA,obS,slL,slR,qAc];kernel_rfl
def zbx_n:Nat→(List Eng.Node)→Int→Option Int
 | 0=>fun _ _=>none
 | n+1=>zbx_t (zbx_n n)
def zbx_s (v:(List Eng.Node)) (at_:Int):Option Int:=evt fun n=>zbx_n n v at_
theorem zbx_valn:∀n,qAl Tryz.prog 25 (zbx_cs (zbx_n n))
 | 0=>qAl.zero fun args hp R k=>by
  show ((Dec.d zbx_da args).bind fun x=>(Dec.d zbx_db hp).bind fun y=>none)=none;cases Dec.d zbx_da args with
  | none=>rfl
  | some x=>cases Dec.d zbx_db hp <;> rfl
 | n+1=>zbx_val_t (zbx_n n) (qB1 (zbx_valn n))
theorem zbx_val:qAl Tryz.prog 25 (zbx_cs zbx_s):=qAl.evt zbx_valn (fun args hp R k=>by
  show ((Dec.d zbx_da args).bind fun x=>(Dec.d zbx_db hp).bind fun y=>_)=(((Dec.d zbx_da args).bind fun x=>(Dec.d zbx_db hp).bind fun y=>_):Option (SV × List SB)).bind _;cases Dec.d zbx_da args with
  | none=>rfl
  | some x =>
   cases Dec.d zbx_db hp with
   | none=>rfl
   | some y=>simp only [obS,Option.bind_assoc]) fun args hp v hp' h=>by
  obtain ⟨x,h1,h2⟩:=Option.bind_eq_some_iff.1 h;obtain ⟨y,h3,h4⟩:=Option.bind_eq_some_iff.1 h2;obtain ⟨r,h5,h6⟩:=Option.bind_eq_some_iff.1 h4;obtain ⟨n,h7⟩:=evt_some h5;refine ⟨n,?_⟩;show ((Dec.d zbx_da args).bind fun x=>(Dec.d zbx_db hp).bind fun y=>_)=_;rw [h1];simp only [obS];rw [h3];simp only [obS];exact (congrArg (fun z=>Option.bind z _) h7).trans h6
def zbx_w:CQ:=zbx_ws zbx_s
theorem zbx_ok:qAg Tryz.prog 25 zbx_w:=qB1 zbx_val
def zby_b0:IQ:=(.loop [0,1,5,6,7] (.seq (.seq (rg 35 [oM 19 t7,oM 20 t0,oM 21 t1,oP 22 (.iaddr 6 t20 t21),oP 23 (.faddr 5 t22),oP 24 (.load none t23),oP 25 (.bi .lss t19 t24),oM 26 t25,oF 27 (.mv t6) 26,oF 28 (.bi .geq t27 (vI 0)) 26,oP 29 (.pick t26 t28 vF),oM 30 t29,oF 31 (.mv t6) 30,oF 32 (.mv t0) 30,oF 33 (.len t32) 30,oF 34 (.bi .lss t31 t33) 30,oP 35 (.pick t30 t34 vF)]) (.cond t35 .skip (.cn [5] (.exit 0)))) (.seq (.block 1 (.seq (rg 5 [oM 38 t5,oM 39 t6,oP 40 (.bslice 3 1 1 [.int .i64 0] [(0,t39)]),oP 41 (.append 3 1 8 [.int .i64 0] t38 t40),oM 5 t41]) (rg 6 [oM 42 t0,oM 43 t6,oP 44 (.call 25 [t42,t43]),oM 6 t44]))) (rg 7 [oM 36 t7,oP 37 (.bi .add t36 (vI 1)),oM 7 t37]))))
def zby_q:IQ:=(.seq (rg 4 [oP 4 (.mv (.v (.slice none 0 0)))]) (.seq (rg 5 [oP 5 (.mv (.v (.slice none 0 0)))]) (.seq (.seq (rg 15 [oM 8 t1,oP 9 (.bi .lss t8 (vI 0)),oM 10 t9,oE 11 (.mv t1) 10,oE 12 (.mv t0) 10,oE 13 (.len t12) 10,oE 14 (.bi .geq t11 t13) 10,oP 15 (.pick t10 vT t14)]) (.cond t15 (.seq (rg 4 [oM 16 t5,oM 4 t16]) (.canon [(4,none,.i64,3)] [4] .ret)) .skip)) (.seq (rg 6 [oM 17 t1,oP 18 (.bi .add t17 (vI 1)),oM 6 t18]) (.seq (.seq (rg 7 [oP 7 (.mv (vI 0))]) (.block 0 (.canon [(5,none,.i64,3)] [0,1,5,6,7] (.sub 0 zby_b0)))) (.seq (rg 4 [oM 45 t5,oM 4 t45]) (.canon [(4,none,.i64,3)] [4] .ret)))))))
theorem zby_chk:chk Tryz.prog 13 []=some (zby_q.erase,[.tmp 4],46):=by kernel_rfl
def qFg (at_ next i:Int) (v:List Eng.Node) (out:List Int):Option ((Int × Int × (List Int)) ⊕ ((List Int))) :=
 gd (0≤at_∧at_<v.length) <|
 gd ((Int.toNat at_)<v.length) <|
 gd ((Int.toNat at_)<v.length) <|
 bif (((decide (i<((v.getD (Int.toNat at_) (ET.dft .node)).kids))) && (decide ((0:Int)≤next))) && (decide (next<(v.length:Int)))) then (
  gd (out.length+([next]:List Int).length≤9223372036854775807∧(out.length+([next]:List Int).length)*8≤140737488355328) <|
  (zbx_s v next).bind fun r5 =>
  gd (qAe (i+(1:Int))) <|
  some (.inl (r5,(i+(1:Int)),(out++[next]))))
 else (
  some (.inr out))
def zby_p0 (at_ next i:Int) (v:List Eng.Node) (out:List Int):Option ((List Int)) :=
 qA0 (fun x:(Int × Int × (List Int))=>qFg at_ x.1 x.2.1 v x.2.2) (next,i,out)
def zby_s (v:(List Eng.Node)) (at_:Int):Option ((List Int)) :=
 bif ((decide (at_<(0:Int))) || (decide ((v.length:Int)≤at_))) then (
  some [])
 else (
  gd (qAe (at_+(1:Int))) <|
  (zby_p0 at_ (at_+(1:Int)) (0:Int) v []).bind fun o6 =>
  some o6)
def zby_G:Nat→Option CQ:=tblQ [(25,zbx_w)]
theorem zby_Gok:∀f C,zby_G f=some C→qAg Tryz.prog f C:=qAj ⟨zbx_ok,tV⟩
def zDJR1:=(qAb (qBi .node) (qAb (dRow .i64 3) dNil))
def zby_d0:=(dQS (qAb (dSO 0 (dO 0)) (qAb (dSO 1 dZ) (qAb (dSO 5 (dO 1)) (qAb (dSO 6 dZ) (qAb (dSO 7 dZ) dNil))))) zDJR1)
def zby_l0:SubQ:=mkL zby_d0 (fun x=>zby_p0 x.1.2.1 x.1.2.2.2.1 x.1.2.2.2.2.1 x.2.1 x.2.2.1) fun x r R kn kx kr=>kx 0 ⟨[sL 5 (.own 1)],[],[.view .node x.2.1,.row .i64 3 r]⟩
def zby_L:Nat→SubQ:=tblL [(0,zby_l0)]
theorem zby_sub0:qA4 zby_L zby_G 1 8 46 0 zby_b0:=qAr (show zby_L 0=zby_l0 from by kernel_rfl) fun x R kn kx kr=>qAo (step:=fun y=>qFg x.1.2.1 y.1 y.2.1 x.2.1 y.2.2) (enc:=fun (y:Int × Int × (List Int))=>zby_d0.e ((x.1.1,x.1.2.1,x.1.2.2.1,y.1,y.2.1,x.1.2.2.2.2.2),(x.2.1,y.2.2,x.2.2.2))) (fun y=>by kernel_rfl) (fun y ki=>by simp only [qFg,-eq_self,qAd,qAf,obA,obS,slL,slR,qAc]; kernel_rfl) (x.1.2.2.2.1,x.1.2.2.2.2.1,x.2.2.1)
theorem zby_subs:qAn zby_L zby_G 1 8 46 zby_q:=qAk (show qAq zby_L zby_G 1 8 46 [(0,zby_b0)] from ⟨zby_sub0,tV⟩)
def zby_da:=(qAb (dVC (dCO (dO 0))) (qAb (dVC (dCO dZ)) dNil))
def zby_db:=(qAb (qBi .node) dNil)
def zby_c:CS:=mkC zby_da zby_db (fun x y=>zby_s y.1 x.2.1) (fun x y r=>.c (.o (.own 1))) fun x y r=>[.view .node y.1,.row .i64 3 r]
theorem zby_val:qAl Tryz.prog 13 zby_c:=qAm zby_chk 8 zby_Gok 1 (fun x=>Nat.le_of_ble_eq_true rfl) (fun y=>rfl) zby_subs fun x y=>by
 simp only [zby_s,-eq_self,qAd,qAf,obA,obS,slL,slR,qAc];kernel_rfl
def zby_w:CQ:=qBm [(0,none,some (.node,34))] (qBr [false] zby_c)
theorem zby_ok:qAg Tryz.prog 13 zby_w:=qAu zby_val
def zbz_b0:IQ:=(.loop [0,2,7,8] (.seq (.seq (rg 31 [oM 28 t8,oM 29 t7,oP 30 (.len t29),oP 31 (.bi .lss t28 t30)]) (.cond t31 .skip (.cn [] (.exit 0)))) (.seq (.block 1 (.seq (rg 43 [oM 34 t0,oM 35 t7,oM 36 t8,oP 37 (.iaddr 1 t35 t36),oP 38 (.load none t37),oP 39 (.iaddr 6 t34 t38),oP 40 (.faddr 1 t39),oP 41 (.load none t40),oM 42 t2,oP 43 (.bi .eql t41 t42)]) (.cond t43 (.seq (rg 6 [oM 44 t7,oM 45 t8,oP 46 (.iaddr 1 t44 t45),oP 47 (.load none t46),oM 6 t47]) (.cn [6] .ret)) .skip))) (rg 8 [oM 32 t8,oP 33 (.bi .add t32 (vI 1)),oM 8 t33]))))
def zbz_q:IQ:=(.seq (rg 6 [oP 6 (.mv (vI 0))]) (.seq (.seq (rg 24 [oM 9 t1,oP 10 (.bi .lss t9 (vI 0)),oM 11 t10,oE 12 (.mv t1) 11,oE 13 (.mv t0) 11,oE 14 (.len t13) 11,oE 15 (.bi .geq t12 t14) 11,oP 16 (.pick t11 vT t15),oM 17 t16,oE 18 (.mv t0) 17,oE 19 (.mv t1) 17,oE 20 (.iaddr 6 t18 t19) 17,oE 21 (.faddr 0 t20) 17,oE 22 (.load none t21) 17,oE 23 (.bi .neq t22 (vI 7)) 17,oP 24 (.pick t17 vT t23)]) (.cond t24 (.seq (rg 6 [oP 6 (.mv (.v (.int .i64 (-1))))]) (.cn [6] .ret)) .skip)) (.seq (rg 7 [oM 25 t0,oM 26 t1,oP 27 (.call 13 [t25,t26]),oM 7 t27]) (.seq (.seq (rg 8 [oP 8 (.mv (vI 0))]) (.block 0 (.cn [0,2,7,8] (.sub 0 zbz_b0)))) (.seq (rg 6 [oP 6 (.mv (.v (.int .i64 (-1))))]) (.cn [6] .ret))))))
theorem zbz_chk:chk Tryz.prog 12 []=some (zbz_q.erase,[.tmp 6],48):=by kernel_rfl
def qD4 (key:BA) (i:Int) (v:List Eng.Node) (l:List Int):Option (Int ⊕ (Int ⊕ Unit)) :=
 bif decide (i<(l.length:Int)) then (
  gd (0≤i∧i<l.length) <|
  gd ((Int.toNat i)<l.length) <|
  gd (0≤(l.getD (Int.toNat i) (ET.dft .i64))∧(l.getD (Int.toNat i) (ET.dft .i64))<v.length) <|
  gd ((Int.toNat (l.getD (Int.toNat i) (ET.dft .i64)))<v.length) <|
  gd ((Int.toNat (l.getD (Int.toNat i) (ET.dft .i64)))<v.length) <|
  bif decide (((v.getD (Int.toNat (l.getD (Int.toNat i) (ET.dft .i64))) (ET.dft .node)).key)=key) then (
   gd (0≤i∧i<l.length) <|
   gd ((Int.toNat i)<l.length) <|
   some (.inr (.inl (l.getD (Int.toNat i) (ET.dft .i64)))))
  else (
   gd (qAe (i+(1:Int))) <|
   some (.inl (i+(1:Int)))))
 else (
  some (.inr (.inr ())))
def zbz_p0 (key:BA) (i:Int) (v:List Eng.Node) (l:List Int):Option (Int ⊕ Unit) :=
 qA0 (fun x:Int=>qD4 key x v l) i
def zbz_s (v:(List Eng.Node)) (at_:Int) (key:BA):Option Int :=
 gd (((decide (at_<(0:Int))) || (decide ((v.length:Int)≤at_)))=false→0≤at_∧at_<v.length) <|
 gd (((decide (at_<(0:Int))) || (decide ((v.length:Int)≤at_)))=false→(Int.toNat at_)<v.length) <|
 gd (((decide (at_<(0:Int))) || (decide ((v.length:Int)≤at_)))=false→(Int.toNat at_)<v.length) <|
 bif (((decide (at_<(0:Int))) || (decide ((v.length:Int)≤at_))) || (!decide (((v.getD (Int.toNat at_) (ET.dft .node)).kind)=(7:Int)))) then (
  some (-1:Int))
 else (
  (zby_s v at_).bind fun r2 =>
  (zbz_p0 key (0:Int) v r2).bind fun o3=>(Sum.elim (fun (o3_0:Int) =>
   some o3_0) (fun (o3_1:Unit) =>
   some (-1:Int))) o3)
def zbz_G:Nat→Option CQ:=tblQ [(13,zby_w)]
theorem zbz_Gok:∀f C,zbz_G f=some C→qAg Tryz.prog f C:=qAj ⟨zby_ok,tV⟩
def zbz_d0:=(dQS (qAb (dSO 0 (dO 0)) (qAb (dSO 2 dS) (qAb (dSO 7 (dO 1)) (qAb (dSO 8 dZ) dNil)))) zDJR1)
def zbz_l0:SubQ:=mkL zbz_d0 (fun x=>zbz_p0 x.1.2.1 x.1.2.2.2.1 x.2.1 x.2.2.1) fun x r R kn kx kr=>(Sum.elim (fun (r_0:Int)=>kr ⟨[sL 6 (.vI r_0)],[],[.view .node x.2.1]⟩) (fun (r_1:Unit)=>kx 0 ⟨[],[],[.view .node x.2.1]⟩)) r
def zbz_L:Nat→SubQ:=tblL [(0,zbz_l0)]
theorem zbz_sub0:qA4 zbz_L zbz_G 1 9 48 0 zbz_b0:=qAr (show zbz_L 0=zbz_l0 from by kernel_rfl) fun x R kn kx kr=>qAo (step:=fun y=>qD4 x.1.2.1 y x.2.1 x.2.2.1) (enc:=fun (y:Int)=>zbz_d0.e ((x.1.1,x.1.2.1,x.1.2.2.1,y,x.1.2.2.2.2),x.2)) (fun y=>by kernel_rfl) (fun y ki=>by simp only [qD4,-eq_self,qAd,qAf,obA,obS,slL,slR,qAc]; kernel_rfl) x.1.2.2.2.1
theorem zbz_subs:qAn zbz_L zbz_G 1 9 48 zbz_q:=qAk (show qAq zbz_L zbz_G 1 9 48 [(0,zbz_b0)] from ⟨zbz_sub0,tV⟩)
def zbz_da:=(qAb (dVC (dCO (dO 0))) (qAb (dVC (dCO dZ)) (qAb (dVC (dCO dS)) dNil)))
def zbz_db:=(qAb (qBi .node) dNil)
def zbz_c:CS:=mkC zbz_da zbz_db (fun x y=>zbz_s y.1 x.2.1 x.2.2.1) (fun x y r=>.c (.o (.vI r))) fun x y r=>[.view .node y.1]
theorem zbz_val:qAl Tryz.prog 12 zbz_c:=qAm zbz_chk 9 zbz_Gok 1 (fun x=>Nat.le_of_ble_eq_true rfl) (fun y=>rfl) zbz_subs fun x y=>by
 simp only [zbz_s,-eq_self,qAd,qAf,obA,obS,slL,slR,qAc];kernel_rfl
def zbz_w:CQ:=qBm [(0,none,some (.node,34))] (qCj [false] zbz_c)
theorem zbz_ok:qAg Tryz.prog 12 zbz_w:=qB1 zbz_val
def zaf_b0:IQ:=(.loop [0,1,5] (.seq (.seq (rg 21 [oM 14 t5,oP 15 (.bi .gtr t14 (vI 0)),oM 16 t15,oF 17 (.mv t1) 16,oF 18 (.mv t0) 16,oF 19 (.len t18) 16,oF 20 (.bi .lss t17 t19) 16,oP 21 (.pick t16 t20 vF)]) (.cond t21 .skip (.cn [1] (.exit 0)))) (.seq (.block 1 (rg 5 [oM 24 t5,oM 25 t0,oM 26 t1,oP 27 (.iaddr 6 t25 t26),oP 28 (.faddr 5 t27),oP 29 (.load none t28),oP 30 (.bin true .sub t29 (vI 1)),oP 31 (.bin true .add t24 t30),oM 5 t31])) (rg 1 [oM 22 t1,oP 23 (.bi .add t22 (vI 1)),oM 1 t23]))))
def zaf_q:IQ:=(.seq (rg 4 [oP 4 (.mv (vI 0))]) (.seq (.seq (rg 13 [oM 6 t1,oP 7 (.bi .lss t6 (vI 0)),oM 8 t7,oE 9 (.mv t1) 8,oE 10 (.mv t0) 8,oE 11 (.len t10) 8,oE 12 (.bi .geq t9 t11) 8,oP 13 (.pick t8 vT t12)]) (.cond t13 (.seq (rg 4 [oP 4 (.mv (.v (.int .i64 (-1))))]) (.cn [4] .ret)) .skip)) (.seq (.seq (rg 5 [oP 5 (.mv (vI 1))]) (.block 0 (.cn [0,1,5] (.sub 0 zaf_b0)))) (.seq (rg 4 [oM 32 t1,oM 4 t32]) (.cn [4] .ret)))))
theorem zaf_chk:chk Tryz.prog 18 [30,31]=some (zaf_q.erase,[.tmp 4],33):=by kernel_rfl
def qD5 (at_ left:Int) (v:List Eng.Node):Option ((Int × Int) ⊕ Int) :=
 bif ((decide ((0:Int)<left)) && (decide (at_<(v.length:Int)))) then (
  gd (0≤at_∧at_<v.length) <|
  gd ((Int.toNat at_)<v.length) <|
  gd ((Int.toNat at_)<v.length) <|
  gd (qAe (at_+(1:Int))) <|
  some (.inl ((at_+(1:Int)),w64 (left+(w64 (((v.getD (Int.toNat at_) (ET.dft .node)).kids) - (1:Int)))))))
 else (
  some (.inr at_))
def zaf_p0 (at_ left:Int) (v:List Eng.Node):Option Int :=
 qA0 (fun x:(Int × Int)=>qD5 x.1 x.2 v) (at_,left)
def zaf_s (v:(List Eng.Node)) (at_:Int):Option Int :=
 bif ((decide (at_<(0:Int))) || (decide ((v.length:Int)≤at_))) then (
  some (-1:Int))
 else (
  (zaf_p0 at_ (1:Int) v).bind fun o1 =>
  some o1)
def zaf_G:Nat→Option CQ:=tblQ []
theorem zaf_Gok:∀f C,zaf_G f=some C→qAg Tryz.prog f C:=fun f C h=>by cases h
def zaf_d0:=(dQS (qAb (dSO 0 (dO 0)) (qAb (dSO 1 dZ) (qAb (dSO 5 dZ) dNil))) (qAb (qBi .node) dNil))
def zaf_l0:SubQ:=mkL zaf_d0 (fun x=>zaf_p0 x.1.2.1 x.1.2.2.1 x.2.1) fun x r R kn kx kr=>kx 0 ⟨[sL 1 (.vI r)],[],[.view .node x.2.1]⟩
def zaf_L:Nat→SubQ:=tblL [(0,zaf_l0)]
theorem zaf_sub0:qA4 zaf_L zaf_G 1 6 33 0 zaf_b0:=qAr (show zaf_L 0=zaf_l0 from by kernel_rfl) fun x R kn kx kr=>qAo (step:=fun y=>qD5 y.1 y.2 x.2.1) (enc:=fun (y:Int × Int)=>zaf_d0.e ((x.1.1,y.1,y.2,x.1.2.2.2),x.2)) (fun y=>by kernel_rfl) (fun y ki=>by simp only [qD5,-eq_self,qAd,qAf,obA,obS,slL,slR,qAc]; kernel_rfl) (x.1.2.1,x.1.2.2.1)
theorem zaf_subs:qAn zaf_L zaf_G 1 6 33 zaf_q:=qAk (show qAq zaf_L zaf_G 1 6 33 [(0,zaf_b0)] from ⟨zaf_sub0,tV⟩)
def zaf_da:=(qAb (dVC (dCO (dO 0))) (qAb (dVC (dCO dZ)) dNil))
def zaf_db:=(qAb (qBi .node) dNil)
def zaf_c:CS:=mkC zaf_da zaf_db (fun x y=>zaf_s y.1 x.2.1) (fun x y r=>.c (.o (.vI r))) fun x y r=>[.view .node y.1]
theorem zaf_val:qAl Tryz.prog 18 zaf_c:=qAm zaf_chk 6 zaf_Gok 1 (fun x=>Nat.le_of_ble_eq_true rfl) (fun y=>rfl) zaf_subs fun x y=>by
 simp only [zaf_s,-eq_self,qAd,qAf,obA,obS,slL,slR,qAc];kernel_rfl
def zaf_w:CQ:=qBm [(0,none,some (.node,34))] (qCj [false] zaf_c)
theorem zaf_ok:qAg Tryz.prog 18 zaf_w:=qB1 zaf_val
def zag_b0:IQ:=(.loop [0,1,5,6,7] (.seq (.seq (rg 34 [oM 18 t7,oM 19 t0,oM 20 t1,oP 21 (.iaddr 6 t19 t20),oP 22 (.faddr 5 t21),oP 23 (.load none t22),oP 24 (.bi .lss t18 t23),oM 25 t24,oF 26 (.mv t6) 25,oF 27 (.bi .geq t26 (vI 0)) 25,oP 28 (.pick t25 t27 vF),oM 29 t28,oF 30 (.mv t6) 29,oF 31 (.mv t0) 29,oF 32 (.len t31) 29,oF 33 (.bi .lss t30 t32) 29,oP 34 (.pick t29 t33 vF)]) (.cond t34 .skip (.cn [5] (.exit 0)))) (.seq (.block 1 (.seq (rg 5 [oM 37 t5,oM 38 t6,oP 39 (.bslice 3 1 1 [.int .i64 0] [(0,t38)]),oP 40 (.append 3 1 8 [.int .i64 0] t37 t39),oM 5 t40]) (rg 6 [oM 41 t0,oM 42 t6,oP 43 (.call 18 [t41,t42]),oM 6 t43]))) (rg 7 [oM 35 t7,oP 36 (.bi .add t35 (vI 1)),oM 7 t36]))))
def zag_q:IQ:=(.seq (rg 4 [oP 4 (.mv (.v (.slice none 0 0)))]) (.seq (.seq (rg 15 [oM 8 t1,oP 9 (.bi .lss t8 (vI 0)),oM 10 t9,oE 11 (.mv t1) 10,oE 12 (.mv t0) 10,oE 13 (.len t12) 10,oE 14 (.bi .geq t11 t13) 10,oP 15 (.pick t10 vT t14)]) (.cond t15 (.seq (rg 4 [oP 4 (.mv (.v (.slice none 0 0)))]) (.canon [(4,none,.i64,3)] [4] .ret)) .skip)) (.seq (rg 5 [oP 5 (.mv (.v (.slice none 0 0)))]) (.seq (rg 6 [oM 16 t1,oP 17 (.bi .add t16 (vI 1)),oM 6 t17]) (.seq (.seq (rg 7 [oP 7 (.mv (vI 0))]) (.block 0 (.canon [(5,none,.i64,3)] [0,1,5,6,7] (.sub 0 zag_b0)))) (.seq (rg 4 [oM 44 t5,oM 4 t44]) (.canon [(4,none,.i64,3)] [4] .ret)))))))
theorem zag_chk:chk Tryz.prog 9 []=some (zag_q.erase,[.tmp 4],45):=by kernel_rfl
def qFf (at_ next i:Int) (v:List Eng.Node) (out:List Int):Option ((Int × Int × (List Int)) ⊕ ((List Int))) :=
 gd (0≤at_∧at_<v.length) <|
 gd ((Int.toNat at_)<v.length) <|
 gd ((Int.toNat at_)<v.length) <|
 bif (((decide (i<((v.getD (Int.toNat at_) (ET.dft .node)).kids))) && (decide ((0:Int)≤next))) && (decide (next<(v.length:Int)))) then (
  gd (out.length+([next]:List Int).length≤9223372036854775807∧(out.length+([next]:List Int).length)*8≤140737488355328) <|
  (zaf_s v next).bind fun r5 =>
  gd (qAe (i+(1:Int))) <|
  some (.inl (r5,(i+(1:Int)),(out++[next]))))
 else (
  some (.inr out))
def zag_p0 (at_ next i:Int) (v:List Eng.Node) (out:List Int):Option ((List Int)) :=
 qA0 (fun x:(Int × Int × (List Int))=>qFf at_ x.1 x.2.1 v x.2.2) (next,i,out)
def zag_s (v:(List Eng.Node)) (at_:Int):Option ((List Int)) :=
 bif ((decide (at_<(0:Int))) || (decide ((v.length:Int)≤at_))) then (
  some [])
 else (
  gd (qAe (at_+(1:Int))) <|
  (zag_p0 at_ (at_+(1:Int)) (0:Int) v []).bind fun o6 =>
  some o6)
def zag_G:Nat→Option CQ:=tblQ [(18,zaf_w)]
theorem zag_Gok:∀f C,zag_G f=some C→qAg Tryz.prog f C:=qAj ⟨zaf_ok,tV⟩
def zag_d0:=(dQS (qAb (dSO 0 (dO 0)) (qAb (dSO 1 dZ) (qAb (dSO 5 (dO 1)) (qAb (dSO 6 dZ) (qAb (dSO 7 dZ) dNil))))) zDJR1)
def zag_l0:SubQ:=mkL zag_d0 (fun x=>zag_p0 x.1.2.1 x.1.2.2.2.1 x.1.2.2.2.2.1 x.2.1 x.2.2.1) fun x r R kn kx kr=>kx 0 ⟨[sL 5 (.own 1)],[],[.view .node x.2.1,.row .i64 3 r]⟩
def zag_L:Nat→SubQ:=tblL [(0,zag_l0)]
theorem zag_sub0:qA4 zag_L zag_G 1 8 45 0 zag_b0:=qAr (show zag_L 0=zag_l0 from by kernel_rfl) fun x R kn kx kr=>qAo (step:=fun y=>qFf x.1.2.1 y.1 y.2.1 x.2.1 y.2.2) (enc:=fun (y:Int × Int × (List Int))=>zag_d0.e ((x.1.1,x.1.2.1,x.1.2.2.1,y.1,y.2.1,x.1.2.2.2.2.2),(x.2.1,y.2.2,x.2.2.2))) (fun y=>by kernel_rfl) (fun y ki=>by simp only [qFf,-eq_self,qAd,qAf,obA,obS,slL,slR,qAc]; kernel_rfl) (x.1.2.2.2.1,x.1.2.2.2.2.1,x.2.2.1)
theorem zag_subs:qAn zag_L zag_G 1 8 45 zag_q:=qAk (show qAq zag_L zag_G 1 8 45 [(0,zag_b0)] from ⟨zag_sub0,tV⟩)
def zag_da:=(qAb (dVC (dCO (dO 0))) (qAb (dVC (dCO dZ)) dNil))
def zag_db:=(qAb (qBi .node) dNil)
def zag_c:CS:=mkC zag_da zag_db (fun x y=>zag_s y.1 x.2.1) (fun x y r=>.c (.o (.own 1))) fun x y r=>[.view .node y.1,.row .i64 3 r]
theorem zag_val:qAl Tryz.prog 9 zag_c:=qAm zag_chk 8 zag_Gok 1 (fun x=>Nat.le_of_ble_eq_true rfl) (fun y=>rfl) zag_subs fun x y=>by
 simp only [zag_s,-eq_self,qAd,qAf,obA,obS,slL,slR,qAc];kernel_rfl
def zag_w:CQ:=qBm [(0,none,some (.node,34))] (qBr [false] zag_c)
theorem zag_ok:qAg Tryz.prog 9 zag_w:=qAu zag_val
def zah_b0:IQ:=(.loop [0,1,2,7,8] (.seq (.seq (rg 43 [oM 27 t8,oM 28 t0,oM 29 t1,oP 30 (.iaddr 6 t28 t29),oP 31 (.faddr 5 t30),oP 32 (.load none t31),oP 33 (.bi .lss t27 t32),oM 34 t33,oF 35 (.mv t7) 34,oF 36 (.bi .geq t35 (vI 0)) 34,oP 37 (.pick t34 t36 vF),oM 38 t37,oF 39 (.mv t7) 38,oF 40 (.mv t0) 38,oF 41 (.len t40) 38,oF 42 (.bi .lss t39 t41) 38,oP 43 (.pick t38 t42 vF)]) (.cond t43 .skip (.cn [] (.exit 0)))) (.seq (.block 1 (.seq (.seq (rg 52 [oM 46 t0,oM 47 t7,oP 48 (.iaddr 6 t46 t47),oP 49 (.faddr 1 t48),oP 50 (.load none t49),oM 51 t2,oP 52 (.bi .eql t50 t51)]) (.cond t52 (.seq (rg 6 [oM 53 t7,oM 6 t53]) (.cn [6] .ret)) .skip)) (rg 7 [oM 54 t0,oM 55 t7,oP 56 (.call 18 [t54,t55]),oM 7 t56]))) (rg 8 [oM 44 t8,oP 45 (.bi .add t44 (vI 1)),oM 8 t45]))))
def zah_q:IQ:=(.seq (rg 6 [oP 6 (.mv (vI 0))]) (.seq (.seq (rg 24 [oM 9 t1,oP 10 (.bi .lss t9 (vI 0)),oM 11 t10,oE 12 (.mv t1) 11,oE 13 (.mv t0) 11,oE 14 (.len t13) 11,oE 15 (.bi .geq t12 t14) 11,oP 16 (.pick t11 vT t15),oM 17 t16,oE 18 (.mv t0) 17,oE 19 (.mv t1) 17,oE 20 (.iaddr 6 t18 t19) 17,oE 21 (.faddr 0 t20) 17,oE 22 (.load none t21) 17,oE 23 (.bi .neq t22 (vI 7)) 17,oP 24 (.pick t17 vT t23)]) (.cond t24 (.seq (rg 6 [oP 6 (.mv (.v (.int .i64 (-1))))]) (.cn [6] .ret)) .skip)) (.seq (rg 7 [oM 25 t1,oP 26 (.bi .add t25 (vI 1)),oM 7 t26]) (.seq (.seq (rg 8 [oP 8 (.mv (vI 0))]) (.block 0 (.cn [0,1,2,7,8] (.sub 0 zah_b0)))) (.seq (rg 6 [oP 6 (.mv (.v (.int .i64 (-1))))]) (.cn [6] .ret))))))
theorem zah_chk:chk Tryz.prog 8 []=some (zah_q.erase,[.tmp 6],57):=by kernel_rfl
def qD9 (at_:Int) (key:BA) (next i:Int) (v:List Eng.Node):Option ((Int × Int) ⊕ (Int ⊕ Unit)) :=
 gd (0≤at_∧at_<v.length) <|
 gd ((Int.toNat at_)<v.length) <|
 gd ((Int.toNat at_)<v.length) <|
 bif (((decide (i<((v.getD (Int.toNat at_) (ET.dft .node)).kids))) && (decide ((0:Int)≤next))) && (decide (next<(v.length:Int)))) then (
  gd (0≤next∧next<v.length) <|
  gd ((Int.toNat next)<v.length) <|
  gd ((Int.toNat next)<v.length) <|
  bif decide (((v.getD (Int.toNat next) (ET.dft .node)).key)=key) then (
   some (.inr (.inl next)))
  else (
   (zaf_s v next).bind fun r3 =>
   gd (qAe (i+(1:Int))) <|
   some (.inl (r3,(i+(1:Int))))))
 else (
  some (.inr (.inr ())))
def zah_p0 (at_:Int) (key:BA) (next i:Int) (v:List Eng.Node):Option (Int ⊕ Unit) :=
 qA0 (fun x:(Int × Int)=>qD9 at_ key x.1 x.2 v) (next,i)
def zah_s (v:(List Eng.Node)) (at_:Int) (key:BA):Option Int :=
 gd (((decide (at_<(0:Int))) || (decide ((v.length:Int)≤at_)))=false→0≤at_∧at_<v.length) <|
 gd (((decide (at_<(0:Int))) || (decide ((v.length:Int)≤at_)))=false→(Int.toNat at_)<v.length) <|
 gd (((decide (at_<(0:Int))) || (decide ((v.length:Int)≤at_)))=false→(Int.toNat at_)<v.length) <|
 bif (((decide (at_<(0:Int))) || (decide ((v.length:Int)≤at_))) || (!decide (((v.getD (Int.toNat at_) (ET.dft .node)).kind)=(7:Int)))) then (
  some (-1:Int))
 else (
  gd (qAe (at_+(1:Int))) <|
  (zah_p0 at_ key (at_+(1:Int)) (0:Int) v).bind fun o4=>(Sum.elim (fun (o4_0:Int) =>
   some o4_0) (fun (o4_1:Unit) =>
   some (-1:Int))) o4)
def zah_G:Nat→Option CQ:=tblQ [(18,zaf_w)]
theorem zah_Gok:∀f C,zah_G f=some C→qAg Tryz.prog f C:=qAj ⟨zaf_ok,tV⟩
def zah_d0:=(dQS (qAb (dSO 0 (dO 0)) (qAb (dSO 1 dZ) (qAb (dSO 2 dS) (qAb (dSO 7 dZ) (qAb (dSO 8 dZ) dNil))))) (qAb (qBi .node) dNil))
def zah_l0:SubQ:=mkL zah_d0 (fun x=>zah_p0 x.1.2.1 x.1.2.2.1 x.1.2.2.2.1 x.1.2.2.2.2.1 x.2.1) fun x r R kn kx kr=>(Sum.elim (fun (r_0:Int)=>kr ⟨[sL 6 (.vI r_0)],[],[.view .node x.2.1]⟩) (fun (r_1:Unit)=>kx 0 ⟨[],[],[.view .node x.2.1]⟩)) r
def zah_L:Nat→SubQ:=tblL [(0,zah_l0)]
theorem zah_sub0:qA4 zah_L zah_G 1 9 57 0 zah_b0:=qAr (show zah_L 0=zah_l0 from by kernel_rfl) fun x R kn kx kr=>qAo (step:=fun y=>qD9 x.1.2.1 x.1.2.2.1 y.1 y.2 x.2.1) (enc:=fun (y:Int × Int)=>zah_d0.e ((x.1.1,x.1.2.1,x.1.2.2.1,y.1,y.2,x.1.2.2.2.2.2),x.2)) (fun y=>by kernel_rfl) (fun y ki=>by simp only [qD9,-eq_self,qAd,qAf,obA,obS,slL,slR,qAc]; kernel_rfl) (x.1.2.2.2.1,x.1.2.2.2.2.1)
theorem zah_subs:qAn zah_L zah_G 1 9 57 zah_q:=qAk (show qAq zah_L zah_G 1 9 57 [(0,zah_b0)] from ⟨zah_sub0,tV⟩)
def zah_da:=(qAb (dVC (dCO (dO 0))) (qAb (dVC (dCO dZ)) (qAb (dVC (dCO dS)) dNil)))
def zah_db:=(qAb (qBi .node) dNil)
def zah_c:CS:=mkC zah_da zah_db (fun x y=>zah_s y.1 x.2.1 x.2.2.1) (fun x y r=>.c (.o (.vI r))) fun x y r=>[.view .node y.1]
theorem zah_val:qAl Tryz.prog 8 zah_c:=qAm zah_chk 9 zah_Gok 1 (fun x=>Nat.le_of_ble_eq_true rfl) (fun y=>rfl) zah_subs fun x y=>by
 simp only [zah_s,-eq_self,qAd,qAf,obA,obS,slL,slR,qAc];kernel_rfl
def zah_w:CQ:=qBm [(0,none,some (.node,34))] (qCj [false] zah_c)
theorem zah_ok:qAg Tryz.prog 8 zah_w:=qB1 zah_val
def zcc_q:IQ:=(.seq (rg 2 [oP 2 (.mv (.v (.slice none 0 0)))]) (.seq (rg 3 [oP 3 (.mv (.v (.slice none 0 0)))]) (.seq (rg 2 [oM 4 t3,oM 5 t0,oP 6 (.append 34 6 64 [.int .i64 0,.string ⟨#[]⟩,.string ⟨#[]⟩,.bool false,.int .i64 0,.int .i64 0] t4 t5),oM 2 t6]) (.canon [(2,none,.node,34)] [2] .ret))))
theorem zcc_chk:chk Tryz.prog 45 []=some (zcc_q.erase,[.tmp 2],7):=by kernel_rfl
def zcc_s (v:(List Eng.Node)):Option ((List Eng.Node)) :=
 gd (v.length≤9223372036854775807∧v.length*64≤140737488355328) <|
 some v
def zcc_G:Nat→Option CQ:=tblQ []
theorem zcc_Gok:∀f C,zcc_G f=some C→qAg Tryz.prog f C:=fun f C h=>by cases h
def zcc_L:Nat→SubQ:=tblL []
theorem zcc_subs:qAn zcc_L zcc_G 1 4 7 zcc_q:=qAk (show qAq zcc_L zcc_G 1 4 7 [] from tV)
def zcc_da:=(qAb (dVC (dCO (dO 0))) dNil)
def zcc_db:=(qAb (qBi .node) dNil)
def zcc_c:CS:=mkC zcc_da zcc_db (fun x y=>zcc_s y.1) (fun x y r=>.c (.o (.own 1))) fun x y r=>[.view .node y.1,.row .node 34 r]
theorem zcc_val:qAl Tryz.prog 45 zcc_c:=qAm zcc_chk 4 zcc_Gok 1 (fun x=>Nat.le_of_ble_eq_true rfl) (fun y=>rfl) zcc_subs fun x y=>by
 simp only [zcc_s,-eq_self,qAd,qAf,obA,obS,slL,slR,qAc];kernel_rfl
def zcc_w:CQ:=qBm [(0,none,some (.node,34))] (qBr [false] zcc_c)
theorem zcc_ok:qAg Tryz.prog 45 zcc_w:=qAu zcc_val
end
open Go.RowKit Go.Lib
def qFx (n b0 b1 b2:Nat):Bool :=
 if n=0 then false else if Lib.firstT b0 % 8≤n then true else if 1<n∧(b1<Lib.accLo (Lib.firstT b0 / 16)∨Lib.accHi (Lib.firstT b0 / 16)<b1) then true else if 2<n∧(b2<128∨191<b2) then true else false
structure HidF (p:Prop):Prop where
 out:p
theorem belowN {B:Nat} {a w:World} (h:Below B a w) (n:Nat):Below B a (w.drewN n):=h.trans ⟨rfl,rfl,rfl,Nat.le_refl _,fun _ _=>rfl⟩
theorem emB:∀a b:Bool,a=true∨a=false∧(b=true∨b=false):=by decide
theorem emD:∀a b c d:Bool,a=true∨a=false∧(b=true∨b=false∧(c=true∨c=false∧(d=true∨d=false))):=by decide
def fullS (s:BA):Bool:=qFx s.size (s.get! 0).toNat (s.get! 1).toNat (s.get! 2).toNat
set_option maxHeartbeats 4000000 in
set_option maxRecDepth 1000000 in
theorem full_run (s:BA) (w:World) (hS:s.size≤9223372036854775807) (hT:Lib.Utf8Tabs 0 1 w) :
  Calls Tryz.prog 72 #[.string s] w fun e w'=>e=.returned (.bool (fullS s))∧Below w.heap.size w w':=by
 unfold fullS;by_cases h0:s.size=0
 ·have hz:(s.size:Int)=0:=by omega
  rw [qFx,if_pos h0];go_enter Tryz.func72,Tryz.ntmps72
  go_wp2
  go_ret
  exact ⟨rfl,Below.refl _ _⟩
 ·have hz0:(0:Int)<(s.size:Int):=by omega
  have hz0':¬((s.size:Int)=0):=by omega
  obtain ⟨x0,hx0⟩:∃x,s.get! 0=x:=⟨_,rfl⟩;obtain ⟨x1,hx1⟩:∃x,s.get! 1=x:=⟨_,rfl⟩;obtain ⟨x2,hx2⟩:∃x,s.get! 2=x:=⟨_,rfl⟩;have hs0:s[0]'(by omega)=x0:=by rw [←hx0]; exact (Utf8W.get!_of_lt s 0 (by omega)).symm
  have l0:=x0.toNat_lt; have l1:=x1.toNat_lt; have l2:=x2.toNat_lt;have hc0:=hT.1 x0.toNat (by omega);rw [hx0,hx1,hx2];rcases Lib.firstT_cases x0.toNat with hX | hX | hX | hX | hX | hX | hX | hX | hX
  ·rw [qFx,if_neg h0,hX,if_pos (by omega)];rw [hX] at hc0;have hz1:((0:Int)≤(s.size:Int)):=by omega
   clear hT hX;go_enter Tryz.func72,Tryz.ntmps72
   go_wp2
   go_ret
   exact ⟨rfl,Below.refl _ _⟩
  ·rw [qFx,if_neg h0,hX,if_pos (by omega)];rw [hX] at hc0;have hz1:((1:Int)≤(s.size:Int)):=by omega
   clear hT hX;go_enter Tryz.func72,Tryz.ntmps72
   go_wp2
   go_ret
   exact ⟨rfl,Below.refl _ _⟩
  ·rw [hX] at hc0;have ha0:=(hT.2 0 (by omega)).1;have ha1:=(hT.2 0 (by omega)).2;simp only [accLo,accHi,Nat.reduceMul,Nat.reduceAdd,Nat.reduceEqDiff,if_true,if_false,Nat.reduceMod,Nat.reduceDiv] at ha0 ha1;generalize hr:qFx s.size x0.toNat x1.toNat x2.toNat=r
   rw [qFx,if_neg h0,hX] at hr;simp only [Nat.reduceMod,Nat.reduceDiv,accLo,accHi,Nat.reduceEqDiff,if_true,if_false] at hr;clear hT hX;by_cases hk:2≤s.size
   ·have hz1:((2:Int)≤(s.size:Int)):=by omega
    rw [if_pos (by omega)] at hr;subst hr;go_enter Tryz.func72,Tryz.ntmps72
    go_wp2
    go_ret
    exact ⟨rfl,Below.refl _ _⟩
   ·have Hr:=(HidF.mk hr);clear hr;rcases (show (s.size:Int)=1 by omega) with hz
    all_goals
     go_enter Tryz.func72,Tryz.ntmps72
     go_wp2
     go_quiet (fail)
     go_wp2
     all_goals (go_ret; refine ⟨?_,belowN ((Below.refl _ _).alloc (Nat.le_refl _) _) _⟩; rw [←Hr.out]; (repeat' split) <;> first | rfl | (exfalso; first | omega | (simp only [decide_eq_true_eq,decide_eq_false_iff_not] at *; omega)))
  ·rw [hX] at hc0;have ha0:=(hT.2 1 (by omega)).1;have ha1:=(hT.2 1 (by omega)).2;simp only [accLo,accHi,Nat.reduceMul,Nat.reduceAdd,Nat.reduceEqDiff,if_true,if_false,Nat.reduceMod,Nat.reduceDiv] at ha0 ha1;generalize hr:qFx s.size x0.toNat x1.toNat x2.toNat=r
   rw [qFx,if_neg h0,hX] at hr;simp only [Nat.reduceMod,Nat.reduceDiv,accLo,accHi,Nat.reduceEqDiff,if_true,if_false] at hr;clear hT hX;by_cases hk:3≤s.size
   ·have hz1:((3:Int)≤(s.size:Int)):=by omega
    rw [if_pos (by omega)] at hr;subst hr;go_enter Tryz.func72,Tryz.ntmps72
    go_wp2
    go_ret
    exact ⟨rfl,Below.refl _ _⟩
   ·have Hr:=(HidF.mk hr);clear hr;rcases (show (s.size:Int)=1∨(s.size:Int)=2 by omega) with hz | hz
    rotate_left 1
    have hs1:s[1]'(by omega)=x1:=by rw [←hx1]; exact (Utf8W.get!_of_lt s 1 (by omega)).symm
    rcases emB (decide ((x1.toNat:Int)<160)) (decide ((191:Int)<(x1.toNat:Int))) with d0 | ⟨d0,d1 | d1⟩
    all_goals
     go_enter Tryz.func72,Tryz.ntmps72
     go_wp2
     go_quiet (fail)
     go_wp2
     all_goals (go_ret; refine ⟨?_,belowN ((Below.refl _ _).alloc (Nat.le_refl _) _) _⟩; rw [←Hr.out]; (repeat' split) <;> first | rfl | (exfalso; first | omega | (simp only [decide_eq_true_eq,decide_eq_false_iff_not] at *; omega)))
  ·rw [hX] at hc0;have ha0:=(hT.2 0 (by omega)).1;have ha1:=(hT.2 0 (by omega)).2;simp only [accLo,accHi,Nat.reduceMul,Nat.reduceAdd,Nat.reduceEqDiff,if_true,if_false,Nat.reduceMod,Nat.reduceDiv] at ha0 ha1;generalize hr:qFx s.size x0.toNat x1.toNat x2.toNat=r
   rw [qFx,if_neg h0,hX] at hr;simp only [Nat.reduceMod,Nat.reduceDiv,accLo,accHi,Nat.reduceEqDiff,if_true,if_false] at hr;clear hT hX;by_cases hk:3≤s.size
   ·have hz1:((3:Int)≤(s.size:Int)):=by omega
    rw [if_pos (by omega)] at hr;subst hr;go_enter Tryz.func72,Tryz.ntmps72
    go_wp2
    go_ret
    exact ⟨rfl,Below.refl _ _⟩
   ·have Hr:=(HidF.mk hr);clear hr;rcases (show (s.size:Int)=1∨(s.size:Int)=2 by omega) with hz | hz
    rotate_left 1
    have hs1:s[1]'(by omega)=x1:=by rw [←hx1]; exact (Utf8W.get!_of_lt s 1 (by omega)).symm
    rcases emB (decide ((x1.toNat:Int)<128)) (decide ((191:Int)<(x1.toNat:Int))) with d0 | ⟨d0,d1 | d1⟩
    all_goals
     go_enter Tryz.func72,Tryz.ntmps72
     go_wp2
     go_quiet (fail)
     go_wp2
     all_goals (go_ret; refine ⟨?_,belowN ((Below.refl _ _).alloc (Nat.le_refl _) _) _⟩; rw [←Hr.out]; (repeat' split) <;> first | rfl | (exfalso; first | omega | (simp only [decide_eq_true_eq,decide_eq_false_iff_not] at *; omega)))
  ·rw [hX] at hc0;have ha0:=(hT.2 2 (by omega)).1;have ha1:=(hT.2 2 (by omega)).2;simp only [accLo,accHi,Nat.reduceMul,Nat.reduceAdd,Nat.reduceEqDiff,if_true,if_false,Nat.reduceMod,Nat.reduceDiv] at ha0 ha1;generalize hr:qFx s.size x0.toNat x1.toNat x2.toNat=r
   rw [qFx,if_neg h0,hX] at hr;simp only [Nat.reduceMod,Nat.reduceDiv,accLo,accHi,Nat.reduceEqDiff,if_true,if_false] at hr;clear hT hX;by_cases hk:3≤s.size
   ·have hz1:((3:Int)≤(s.size:Int)):=by omega
    rw [if_pos (by omega)] at hr;subst hr;go_enter Tryz.func72,Tryz.ntmps72
    go_wp2
    go_ret
    exact ⟨rfl,Below.refl _ _⟩
   ·have Hr:=(HidF.mk hr);clear hr;rcases (show (s.size:Int)=1∨(s.size:Int)=2 by omega) with hz | hz
    rotate_left 1
    have hs1:s[1]'(by omega)=x1:=by rw [←hx1]; exact (Utf8W.get!_of_lt s 1 (by omega)).symm
    rcases emB (decide ((x1.toNat:Int)<128)) (decide ((159:Int)<(x1.toNat:Int))) with d0 | ⟨d0,d1 | d1⟩
    all_goals
     go_enter Tryz.func72,Tryz.ntmps72
     go_wp2
     go_quiet (fail)
     go_wp2
     all_goals (go_ret; refine ⟨?_,belowN ((Below.refl _ _).alloc (Nat.le_refl _) _) _⟩; rw [←Hr.out]; (repeat' split) <;> first | rfl | (exfalso; first | omega | (simp only [decide_eq_true_eq,decide_eq_false_iff_not] at *; omega)))
  ·rw [hX] at hc0;have ha0:=(hT.2 3 (by omega)).1;have ha1:=(hT.2 3 (by omega)).2;simp only [accLo,accHi,Nat.reduceMul,Nat.reduceAdd,Nat.reduceEqDiff,if_true,if_false,Nat.reduceMod,Nat.reduceDiv] at ha0 ha1;generalize hr:qFx s.size x0.toNat x1.toNat x2.toNat=r
   rw [qFx,if_neg h0,hX] at hr;simp only [Nat.reduceMod,Nat.reduceDiv,accLo,accHi,Nat.reduceEqDiff,if_true,if_false] at hr;clear hT hX;by_cases hk:4≤s.size
   ·have hz1:((4:Int)≤(s.size:Int)):=by omega
    rw [if_pos (by omega)] at hr;subst hr;go_enter Tryz.func72,Tryz.ntmps72
    go_wp2
    go_ret
    exact ⟨rfl,Below.refl _ _⟩
   ·have Hr:=(HidF.mk hr);clear hr;rcases (show (s.size:Int)=1∨(s.size:Int)=2∨(s.size:Int)=3 by omega) with hz | hz | hz
    rotate_left 1
    have hs1:s[1]'(by omega)=x1:=by rw [←hx1]; exact (Utf8W.get!_of_lt s 1 (by omega)).symm
    rcases emB (decide ((x1.toNat:Int)<144)) (decide ((191:Int)<(x1.toNat:Int))) with d0 | ⟨d0,d1 | d1⟩
    rotate_left 3
    have hs1:s[1]'(by omega)=x1:=by rw [←hx1]; exact (Utf8W.get!_of_lt s 1 (by omega)).symm
    have hs2:s[2]'(by omega)=x2:=by rw [←hx2]; exact (Utf8W.get!_of_lt s 2 (by omega)).symm
    rcases emD (decide ((x1.toNat:Int)<144)) (decide ((191:Int)<(x1.toNat:Int))) (decide ((x2.toNat:Int)<128)) (decide ((191:Int)<(x2.toNat:Int))) with d0 | ⟨d0,d1 | ⟨d1,d2 | ⟨d2,d3 | d3⟩⟩⟩
    all_goals
     go_enter Tryz.func72,Tryz.ntmps72
     go_wp2
     go_quiet (fail)
     go_wp2
     all_goals (go_ret; refine ⟨?_,belowN ((Below.refl _ _).alloc (Nat.le_refl _) _) _⟩; rw [←Hr.out]; (repeat' split) <;> first | rfl | (exfalso; first | omega | (simp only [decide_eq_true_eq,decide_eq_false_iff_not] at *; omega)))
  ·rw [hX] at hc0;have ha0:=(hT.2 0 (by omega)).1;have ha1:=(hT.2 0 (by omega)).2;simp only [accLo,accHi,Nat.reduceMul,Nat.reduceAdd,Nat.reduceEqDiff,if_true,if_false,Nat.reduceMod,Nat.reduceDiv] at ha0 ha1;generalize hr:qFx s.size x0.toNat x1.toNat x2.toNat=r
   rw [qFx,if_neg h0,hX] at hr;simp only [Nat.reduceMod,Nat.reduceDiv,accLo,accHi,Nat.reduceEqDiff,if_true,if_false] at hr;clear hT hX;by_cases hk:4≤s.size
   ·have hz1:((4:Int)≤(s.size:Int)):=by omega
    rw [if_pos (by omega)] at hr;subst hr;go_enter Tryz.func72,Tryz.ntmps72
    go_wp2
    go_ret
    exact ⟨rfl,Below.refl _ _⟩
   ·have Hr:=(HidF.mk hr);clear hr;rcases (show (s.size:Int)=1∨(s.size:Int)=2∨(s.size:Int)=3 by omega) with hz | hz | hz
    rotate_left 1
    have hs1:s[1]'(by omega)=x1:=by rw [←hx1]; exact (Utf8W.get!_of_lt s 1 (by omega)).symm
    rcases emB (decide ((x1.toNat:Int)<128)) (decide ((191:Int)<(x1.toNat:Int))) with d0 | ⟨d0,d1 | d1⟩
    rotate_left 3
    have hs1:s[1]'(by omega)=x1:=by rw [←hx1]; exact (Utf8W.get!_of_lt s 1 (by omega)).symm
    have hs2:s[2]'(by omega)=x2:=by rw [←hx2]; exact (Utf8W.get!_of_lt s 2 (by omega)).symm
    rcases emD (decide ((x1.toNat:Int)<128)) (decide ((191:Int)<(x1.toNat:Int))) (decide ((x2.toNat:Int)<128)) (decide ((191:Int)<(x2.toNat:Int))) with d0 | ⟨d0,d1 | ⟨d1,d2 | ⟨d2,d3 | d3⟩⟩⟩
    all_goals
     go_enter Tryz.func72,Tryz.ntmps72
     go_wp2
     go_quiet (fail)
     go_wp2
     all_goals (go_ret; refine ⟨?_,belowN ((Below.refl _ _).alloc (Nat.le_refl _) _) _⟩; rw [←Hr.out]; (repeat' split) <;> first | rfl | (exfalso; first | omega | (simp only [decide_eq_true_eq,decide_eq_false_iff_not] at *; omega)))
  ·rw [hX] at hc0;have ha0:=(hT.2 4 (by omega)).1;have ha1:=(hT.2 4 (by omega)).2;simp only [accLo,accHi,Nat.reduceMul,Nat.reduceAdd,Nat.reduceEqDiff,if_true,if_false,Nat.reduceMod,Nat.reduceDiv] at ha0 ha1;generalize hr:qFx s.size x0.toNat x1.toNat x2.toNat=r
   rw [qFx,if_neg h0,hX] at hr;simp only [Nat.reduceMod,Nat.reduceDiv,accLo,accHi,Nat.reduceEqDiff,if_true,if_false] at hr;clear hT hX;by_cases hk:4≤s.size
   ·have hz1:((4:Int)≤(s.size:Int)):=by omega
    rw [if_pos (by omega)] at hr;subst hr;go_enter Tryz.func72,Tryz.ntmps72
    go_wp2
    go_ret
    exact ⟨rfl,Below.refl _ _⟩
   ·have Hr:=(HidF.mk hr);clear hr;rcases (show (s.size:Int)=1∨(s.size:Int)=2∨(s.size:Int)=3 by omega) with hz | hz | hz
    rotate_left 1
    have hs1:s[1]'(by omega)=x1:=by rw [←hx1]; exact (Utf8W.get!_of_lt s 1 (by omega)).symm
    rcases emB (decide ((x1.toNat:Int)<128)) (decide ((143:Int)<(x1.toNat:Int))) with d0 | ⟨d0,d1 | d1⟩
    rotate_left 3
    have hs1:s[1]'(by omega)=x1:=by rw [←hx1]; exact (Utf8W.get!_of_lt s 1 (by omega)).symm
    have hs2:s[2]'(by omega)=x2:=by rw [←hx2]; exact (Utf8W.get!_of_lt s 2 (by omega)).symm
    rcases emD (decide ((x1.toNat:Int)<128)) (decide ((143:Int)<(x1.toNat:Int))) (decide ((x2.toNat:Int)<128)) (decide ((191:Int)<(x2.toNat:Int))) with d0 | ⟨d0,d1 | ⟨d1,d2 | ⟨d2,d3 | d3⟩⟩⟩
    all_goals
     go_enter Tryz.func72,Tryz.ntmps72
     go_wp2
     go_quiet (fail)
     go_wp2
     all_goals (go_ret; refine ⟨?_,belowN ((Below.refl _ _).alloc (Nat.le_refl _) _) _⟩; rw [←Hr.out]; (repeat' split) <;> first | rfl | (exfalso; first | omega | (simp only [decide_eq_true_eq,decide_eq_false_iff_not] at *; omega)))
end Go.Proofs.YtnifdcmeffnpaaaGreatDoor
namespace Go.Proofs
open Go.Shelf
shelf_lay Lays.n197 Nm 197 at Tryz as Tryz.laysDecode
end Go.Proofs
namespace Go.Proofs.YtnifdcmeffnpaaaGreatDoor
open Go.Eng
set_option linter.unusedVariables false
set_option linter.unusedSimpArgs false
theorem stays_below {w w':World} (h:Go.RowKit.Below w.heap.size w w'):Stays (fun _=>False) w w':=⟨h.os,h.output,h.size,fun k hk _=>h.block k hk⟩
theorem given_cont {α β γ:Type} {A:Dec α (List SV)} {B:Dec β (List SB)} (f:α→Option γ) (v:γ→SV) (args:List SV) (hp:List SB) (R:Type) (k:SV→List SB→Option R) :
  ((Dec.d A args).bind fun x=>(Dec.d B hp).bind fun y=>(f x).bind fun r=>k (v r) [])=(((Dec.d A args).bind fun x=>(Dec.d B hp).bind fun y=>(f x).bind fun r=>some (v r,([]:List SB))):Option (SV × List SB)).bind fun z=>k z.1 z.2:=by
 cases Dec.d A args with
 | none=>rfl
 | some x =>
  cases Dec.d B hp with
  | none=>rfl
  | some y=>simp only [obS,Option.bind_assoc]
def utf8_da:=(qAb (dVC (dCO dS)) dNil)
def utf8_db:=(dNil:Dec Unit (List SB))
noncomputable def qBf (s:BA):Option (Int × Int):=some (((Lib.decodeGo s).1:Int),((Lib.decodeGo s).2:Int))
noncomputable def qC2:CS:=fun args hp R k=>(Dec.d utf8_da args).bind fun x=>(Dec.d utf8_db hp).bind fun y=>(qBf x.1).bind fun r=>k (.tup [.o (.val (.int .i32 r.1)),.o (.val (.int .i64 r.2))]) []
theorem qFe:qAl Tryz.prog 71 qC2:=by
 refine ⟨fun args hp R k=>given_cont (A:=utf8_da) (B:=utf8_db) (fun x=>qBf x.1) (fun r=>.tup [.o (.val (.int .i32 r.1)),.o (.val (.int .i64 r.2))]) args hp R k,fun args hp v hp' hC hlt X w ρ hhp=>?_⟩;obtain ⟨x,h1,h2⟩:=Option.bind_eq_some_iff.1 hC;obtain ⟨y,h3,h4⟩:=Option.bind_eq_some_iff.1 h2;obtain ⟨r,h5,h6⟩:=Option.bind_eq_some_iff.1 h4;rw [Dec.ok _ _ _ h1];have hhp':=Dec.ok _ _ _ h3;obtain ⟨s,u⟩:=x;simp only [qBf,snJ,Prod.mk.injEq] at h6 h5;obtain ⟨rfl,rfl⟩:=h6;subst h5;rw [hhp'] at hhp ⊢;refine (Any.utf8_DecodeRuneInString Tryz.laysDecode s w hhp.tab.1).mono ?_;rintro e w' ⟨rfl,hb⟩
 obtain ⟨g1,g2⟩:=hhp.past ⟨rfl,rfl,Nat.le_refl _,fun k _ _=>rfl⟩ (stays_below hb);exact ⟨ρ,fun _ _=>rfl,Nat.le_refl _,rfl,fun c hc=>by simp only [List.mem_cons,List.not_mem_nil,or_false] at hc; rcases hc with rfl | rfl <;> trivial,g1,g2⟩
noncomputable def qC1:CQ:=qCj [] qC2
theorem qFw:qAg Tryz.prog 71 qC1:=qAx qFe
noncomputable def qBu (s:BA):Option Bool:=gd (s.size≤9223372036854775807) (some (fullS s))
noncomputable def qDl:CS:=fun args hp R k=>(Dec.d utf8_da args).bind fun x=>(Dec.d utf8_db hp).bind fun y=>(qBu x.1).bind fun r=>k (.c (.o (.val (.bool r)))) []
theorem qGf:qAl Tryz.prog 72 qDl:=by
 refine ⟨fun args hp R k=>given_cont (A:=utf8_da) (B:=utf8_db) (fun x=>qBu x.1) (fun r=>.c (.o (.val (.bool r)))) args hp R k,fun args hp v hp' hC hlt X w ρ hhp=>?_⟩;obtain ⟨x,h1,h2⟩:=Option.bind_eq_some_iff.1 hC;obtain ⟨y,h3,h4⟩:=Option.bind_eq_some_iff.1 h2;obtain ⟨r,h5,h6⟩:=Option.bind_eq_some_iff.1 h4;obtain ⟨hi,h7⟩:=gd_some.1 h5;rw [Dec.ok _ _ _ h1];have hhp':=Dec.ok _ _ _ h3;obtain ⟨s,u⟩:=x;simp only [snJ,Prod.mk.injEq] at h6 h7;obtain ⟨rfl,rfl⟩:=h6;simp only at hi;subst h7;rw [hhp'] at hhp ⊢;refine (full_run s w hi hhp.tab.1).mono ?_;rintro e w' ⟨rfl,hb⟩
 obtain ⟨g1,g2⟩:=hhp.past ⟨rfl,rfl,Nat.le_refl _,fun k _ _=>rfl⟩ (stays_below hb);exact ⟨ρ,fun _ _=>rfl,Nat.le_refl _,rfl,trivial,g1,g2⟩
noncomputable def qDp:CQ:=qCj [] qDl
theorem qGq:qAg Tryz.prog 72 qDp:=qAx qGf
end Go.Proofs.YtnifdcmeffnpaaaGreatDoor
namespace Go.Proofs.YtnifdcmeffnpaaaGreatDoor
open Go.Eng
set_option linter.unusedVariables false
set_option linter.unusedSimpArgs false
set_option maxRecDepth 100000
end Go.Proofs.YtnifdcmeffnpaaaGreatDoor
