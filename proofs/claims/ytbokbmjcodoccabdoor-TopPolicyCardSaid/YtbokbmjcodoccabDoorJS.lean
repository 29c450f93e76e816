/-
  Functions as the engine reads them (printed by gen.py).
-/
import Derived.Shelf.Unicode.DecodeSlow
import Derived.WalkKit
import Derived.Below
import Derived.BigQuiet
import Derived.Shelf.Unicode.ValidAny
import Derived.Shelf.Unicode.DecodeAny
import Derived.Shelf.Lay
import Derived.Ground.NamesProg
import Derived.Test.YtbokbmjcodoccabDoorProg
import Derived.Test.YtbokbmjcodoccabDoorPDecRef
set_option linter.unusedSimpArgs false
set_option linter.unusedVariables false
namespace Go.Proofs.YtbokbmjcodoccabDoor
open Go.Eng
set_option maxRecDepth 100000
noncomputable section
def zbo_da:=(qAb (dVC (dCO (dO 0))) (qAb (dVC (dCO dZ)) dNil))
def zbo_db:=(qAb (qBw .node) dNil)
def zbo_cs(self:(List Eng.Node)->Int->Option Int):CS:=mkC zbo_da zbo_db (λx y=>self y.1 x.2.1) (λx y r=>.c (.o (.vI r))) λx y r=>[.view .node y.1]
def zbo_ws(self:(List Eng.Node)->Int->Option Int):CQ:=qB7 [(0,none,some (.node,37))] (qDx [false] (zbo_cs self))
def zbo_b0:IQ:=(.loop [0,1,5,6] (.seq (.seq (rg 27 [oM 17 t6,oM 18 t0,oM 19 t1,oP 20 (.iaddr 6 t18 t19),oP 21 (.faddr 5 t20),oP 22 (.load none t21),oP 23 (.bi .lss t17 t22),oM 24 t23,oF 25 (.mv t5) 24,oF 26 (.bi .geq t25 (vI 0)) 24,oP 27 (.pick t24 t26 vF)]) (.cond t27 .skip (.cn [5] (.exit 0)))) (.seq (.block 1 (rg 5 [oM 30 t0,oM 31 t5,oP 32 (.call 17 [t30,t31]),oM 5 t32])) (rg 6 [oM 28 t6,oP 29 (.bi .add t28 (vI 1)),oM 6 t29]))))
def zbo_q:IQ:=(.seq (rg 4 [oP 4 (.mv (vI 0))]) (.seq (.seq (rg 14 [oM 7 t1,oP 8 (.bi .lss t7 (vI 0)),oM 9 t8,oE 10 (.mv t1) 9,oE 11 (.mv t0) 9,oE 12 (.len t11) 9,oE 13 (.bi .geq t10 t12) 9,oP 14 (.pick t9 vT t13)]) (.cond t14 (.seq (rg 4 [oP 4 (.mv (.v (.int .i64 (-1))))]) (.cn [4] .ret)) .skip)) (.seq (rg 5 [oM 15 t1,oP 16 (.bi .add t15 (vI 1)),oM 5 t16]) (.seq (.seq (rg 6 [oP 6 (.mv (vI 0))]) (.block 0 (.cn [0,1,5,6] (.sub 0 zbo_b0)))) (.seq (rg 4 [oM 33 t5,oM 4 t33]) (.cn [4] .ret))))))
theorem zbo_chk:chk Tryd.prog 17 []=some (zbo_q.erase,[.tmp 4],34):=by kernel_rfl
def qF3(self:(List Eng.Node)->Int->Option Int)(at_ next i:Int)(v:List Eng.Node):Option ((Int × Int) ⊕ Int) :=
 gd (0<=at_/\at_<v.length)<|gd (at_.toNat<v.length)<|gd (at_.toNat<v.length)<|bif((decide (i<((v.getD at_.toNat (ET.dft .node)).kids))) && (decide ((0:Int)<=next))) then((self v next).bind λr3 =>gd (qAc (i+(1:Int)))<|some (.inl (r3,(i+(1:Int))))) else(some (.inr next))
def zbo_p0(self:(List Eng.Node)->Int->Option Int)(at_ next i:Int)(v:List Eng.Node):Option Int :=
 qAr (λx:(Int × Int)=>qF3 self at_ x.1 x.2 v) (next,i)
def zbo_t(self:(List Eng.Node)->Int->Option Int)(v:(List Eng.Node))(at_:Int):Option Int :=
 bif((decide (at_<(0:Int))) || (decide ((v.length:Int)<=at_))) then(some (-1:Int)) else(gd (qAc (at_+(1:Int)))<|(zbo_p0 self at_ (at_+(1:Int)) (0:Int) v).bind λo4 =>some o4)
def zbo_G(self:(List Eng.Node)->Int->Option Int):Nat->Option CQ:=tblQ [(17,zbo_ws self)]
theorem zbo_Gok(self:(List Eng.Node)->Int->Option Int)(hself:qAg Tryd.prog 17 (zbo_ws self)):∀f C,(zbo_G self) f=some C->qAg Tryd.prog f C:=qAk ⟨hself,tV⟩
def zbo_d0:=(dQS (qAb (dSO 0 (dO 0)) (qAb (dSO 1 dZ) (qAb (dSO 5 dZ) (qAb (dSO 6 dZ) dNil)))) (qAb (qBw .node) dNil))
def zbo_l0(self:(List Eng.Node)->Int->Option Int):SubQ:=mkL zbo_d0 (λx=>zbo_p0 self x.1.2.1 x.1.2.2.1 x.1.2.2.2.1 x.2.1) λx r R kn kx kr=>kx 0 ⟨[sL 5 (.vI r)],[],[.view .node x.2.1]⟩
def zbo_L(self:(List Eng.Node)->Int->Option Int):Nat->SubQ:=tblL [(0,zbo_l0 self)]
theorem zbo_sub0(self:(List Eng.Node)->Int->Option Int):qA3 (zbo_L self) (zbo_G self) 1 7 34 0 zbo_b0:=qAj (show(zbo_L self) 0=(zbo_l0 self) from by kernel_rfl) λx R kn kx kr=>qAh (step:=λy=>qF3 self x.1.2.1 y.1 y.2 x.2.1) (enc:=λ(y:Int × Int)=>zbo_d0.e ((x.1.1,x.1.2.1,y.1,y.2,x.1.2.2.2.2),x.2)) (λy=>by kernel_rfl) (λy ki=>by simp only[qF3,-eq_self,sZ];kernel_rfl) (x.1.2.2.1,x.1.2.2.2.1)
theorem zbo_subs(self:(List Eng.Node)->Int->Option Int):qCr (zbo_L self) (zbo_G self) 1 7 34 zbo_q:=qC2 (show qAt (zbo_L self) (zbo_G self) 1 7 34 [(0,zbo_b0)] from⟨(zbo_sub0 self),tV⟩)
theorem zbo_val_t(self:(List Eng.Node)->Int->Option Int)(hself:qAg Tryd.prog 17 (zbo_ws self)):qAi Tryd.prog 17 (zbo_cs (zbo_t self)):=val_okC zbo_chk 7 (zbo_Gok self hself) 1 (λx=>Nat.le_of_ble_eq_true rfl) (λy=>rfl) (zbo_subs self) λx y=>by
 simp only[zbo_t,-eq_self,sZ];kernel_rfl
def zbo_n:Nat->(List Eng.Node)->Int->Option Int
 | 0=>λ_ _=>none
 | n+1=>zbo_t (zbo_n n)
def zbo_s(v:(List Eng.Node))(at_:Int):Option Int:=evt λn=>zbo_n n v at_
theorem zbo_valn:∀n,qAi Tryd.prog 17 (zbo_cs (zbo_n n))
 | 0=>qAi.zero λargs hp R k=>by
  show((Dec.d zbo_da args).bind λx=>(Dec.d zbo_db hp).bind λy=>none)=none;cases Dec.d zbo_da args with
  | none=>rfl
  | some x=>cases Dec.d zbo_db hp <;> rfl
 | n+1=>zbo_val_t (zbo_n n) (qFk (zbo_valn n))
theorem zbo_val:qAi Tryd.prog 17 (zbo_cs zbo_s):=qAi.evt zbo_valn (λargs hp R k=>by
  show((Dec.d zbo_da args).bind λx=>(Dec.d zbo_db hp).bind λy=>_)=(((Dec.d zbo_da args).bind λx=>(Dec.d zbo_db hp).bind λy=>_):Option (SV × List SB)).bind _;cases Dec.d zbo_da args with
  | none=>rfl
  | some x =>
   cases Dec.d zbo_db hp with
   | none=>rfl
   | some y=>simp only[obS,Option.bind_assoc]) λargs hp v hp' h=>by
  obtain⟨x,h1,h2⟩:=Option.bind_eq_some_iff.1 h;obtain⟨y,h3,h4⟩:=Option.bind_eq_some_iff.1 h2;obtain⟨r,h5,h6⟩:=Option.bind_eq_some_iff.1 h4;obtain⟨n,h7⟩:=evt_some h5;refine⟨n,?_⟩;show((Dec.d zbo_da args).bind λx=>(Dec.d zbo_db hp).bind λy=>_)=_;rw[h1];simp only[obS];rw[h3];simp only[obS];exact(congrArg (λz=>Option.bind z _) h7).trans h6
def zbo_w:CQ:=zbo_ws zbo_s
theorem zbo_ok:qAg Tryd.prog 17 zbo_w:=qFk zbo_val
def zbp_b0:IQ:=(.loop [0,1,5,6,7] (.seq (.seq (rg 35 [oM 19 t7,oM 20 t0,oM 21 t1,oP 22 (.iaddr 6 t20 t21),oP 23 (.faddr 5 t22),oP 24 (.load none t23),oP 25 (.bi .lss t19 t24),oM 26 t25,oF 27 (.mv t6) 26,oF 28 (.bi .geq t27 (vI 0)) 26,oP 29 (.pick t26 t28 vF),oM 30 t29,oF 31 (.mv t6) 30,oF 32 (.mv t0) 30,oF 33 (.len t32) 30,oF 34 (.bi .lss t31 t33) 30,oP 35 (.pick t30 t34 vF)]) (.cond t35 .skip (.cn [5] (.exit 0)))) (.seq (.block 1 (.seq (rg 5 [oM 38 t5,oM 39 t6,oP 40 (.bslice 3 1 1 [.int .i64 0] [(0,t39)]),oP 41 (.append 3 1 8 [.int .i64 0] t38 t40),oM 5 t41]) (rg 6 [oM 42 t0,oM 43 t6,oP 44 (.call 17 [t42,t43]),oM 6 t44]))) (rg 7 [oM 36 t7,oP 37 (.bi .add t36 (vI 1)),oM 7 t37]))))
def zbp_q:IQ:=(.seq (rg 4 [oP 4 (.mv (.v (.slice none 0 0)))]) (.seq (rg 5 [oP 5 (.mv (.v (.slice none 0 0)))]) (.seq (.seq (rg 15 [oM 8 t1,oP 9 (.bi .lss t8 (vI 0)),oM 10 t9,oE 11 (.mv t1) 10,oE 12 (.mv t0) 10,oE 13 (.len t12) 10,oE 14 (.bi .geq t11 t13) 10,oP 15 (.pick t10 vT t14)]) (.cond t15 (.seq (rg 4 [oM 16 t5,oM 4 t16]) (.canon [(4,none,.i64,3)] [4] .ret)) .skip)) (.seq (rg 6 [oM 17 t1,oP 18 (.bi .add t17 (vI 1)),oM 6 t18]) (.seq (.seq (rg 7 [oP 7 (.mv (vI 0))]) (.block 0 (.canon [(5,none,.i64,3)] [0,1,5,6,7] (.sub 0 zbp_b0)))) (.seq (rg 4 [oM 45 t5,oM 4 t45]) (.canon [(4,none,.i64,3)] [4] .ret)))))))
def qF4(at_ next i:Int)(v:List Eng.Node)(out:List Int):Option ((Int × Int × (List Int)) ⊕ ((List Int))) :=
 gd (0<=at_/\at_<v.length)<|gd (at_.toNat<v.length)<|gd (at_.toNat<v.length)<|bif(((decide (i<((v.getD at_.toNat (ET.dft .node)).kids))) && (decide ((0:Int)<=next))) && (decide (next<(v.length:Int)))) then(gd (out.length+([next]:List Int).length<=9223372036854775807/\(out.length+([next]:List Int).length)*8<=140737488355328)<|(zbo_s v next).bind λr5 =>gd (qAc (i+(1:Int)))<|some (.inl (r5,(i+(1:Int)),(out++[next])))) else(some (.inr out))
def zbp_p0(at_ next i:Int)(v:List Eng.Node)(out:List Int):Option ((List Int)) :=
 qAr (λx:(Int × Int × (List Int))=>qF4 at_ x.1 x.2.1 v x.2.2) (next,i,out)
def zbp_s(v:(List Eng.Node))(at_:Int):Option ((List Int)) :=
 bif((decide (at_<(0:Int))) || (decide ((v.length:Int)<=at_))) then(some []) else(gd (qAc (at_+(1:Int)))<|(zbp_p0 at_ (at_+(1:Int)) (0:Int) v []).bind λo6 =>some o6)
def zbp_G:Nat->Option CQ:=tblQ [(17,zbo_w)]
def zbp_d0:=(dQS (qAb (dSO 0 (dO 0)) (qAb (dSO 1 dZ) (qAb (dSO 5 (dO 1)) (qAb (dSO 6 dZ) (qAb (dSO 7 dZ) dNil))))) (qAb (qBw .node) (qAb (dRow .i64 3) dNil)))
def zbp_l0:SubQ:=mkL zbp_d0 (λx=>zbp_p0 x.1.2.1 x.1.2.2.2.1 x.1.2.2.2.2.1 x.2.1 x.2.2.1) λx r R kn kx kr=>kx 0 ⟨[sL 5 (.own 1)],[],[.view .node x.2.1,.row .i64 3 r]⟩
def zbp_L:Nat->SubQ:=tblL [(0,zbp_l0)]
theorem zbp_sub0:qA3 zbp_L zbp_G 1 8 46 0 zbp_b0:=qAj (show zbp_L 0=zbp_l0 from by kernel_rfl) λx R kn kx kr=>qAh (step:=λy=>qF4 x.1.2.1 y.1 y.2.1 x.2.1 y.2.2) (enc:=λ(y:Int × Int × (List Int))=>zbp_d0.e ((x.1.1,x.1.2.1,x.1.2.2.1,y.1,y.2.1,x.1.2.2.2.2.2),(x.2.1,y.2.2,x.2.2.2))) (λy=>by kernel_rfl) (λy ki=>by simp only[qF4,-eq_self,sZ];kernel_rfl) (x.1.2.2.2.1,x.1.2.2.2.2.1,x.2.2.1)
def zbp_c:CS:=mkC (qAb (dVC (dCO (dO 0))) (qAb (dVC (dCO dZ)) dNil)) (qAb (qBw .node) dNil) (λx y=>zbp_s y.1 x.2.1) (λx y r=>.c (.o (.own 1))) λx y r=>[.view .node y.1,.row .i64 3 r]
theorem zbp_val:qAi Tryd.prog 9 zbp_c:=vl1 zbp_q [.tmp 4] 46 8 1 (show qAt zbp_L zbp_G 1 8 46 [(0,zbp_b0)] from⟨zbp_sub0,tV⟩) (qAk ⟨zbo_ok,tV⟩) λx y=>by
 simp only[zbp_s,-eq_self,sZ];kernel_rfl
def zbp_w:CQ:=qB7 [(0,none,some (.node,37))] (qBz [false] zbp_c)
theorem zbp_ok:qAg Tryd.prog 9 zbp_w:=qAu zbp_val
def zaf_b0:IQ:=(.loop [0,1,5] (.seq (.seq (rg 21 [oM 14 t5,oP 15 (.bi .gtr t14 (vI 0)),oM 16 t15,oF 17 (.mv t1) 16,oF 18 (.mv t0) 16,oF 19 (.len t18) 16,oF 20 (.bi .lss t17 t19) 16,oP 21 (.pick t16 t20 vF)]) (.cond t21 .skip (.cn [1] (.exit 0)))) (.seq (.block 1 (rg 5 [oM 24 t5,oM 25 t0,oM 26 t1,oP 27 (.iaddr 6 t25 t26),oP 28 (.faddr 5 t27),oP 29 (.load none t28),oP 30 (.bin true .sub t29 (vI 1)),oP 31 (.bin true .add t24 t30),oM 5 t31])) (rg 1 [oM 22 t1,oP 23 (.bi .add t22 (vI 1)),oM 1 t23]))))
def zaf_q:IQ:=(.seq (rg 4 [oP 4 (.mv (vI 0))]) (.seq (.seq (rg 13 [oM 6 t1,oP 7 (.bi .lss t6 (vI 0)),oM 8 t7,oE 9 (.mv t1) 8,oE 10 (.mv t0) 8,oE 11 (.len t10) 8,oE 12 (.bi .geq t9 t11) 8,oP 13 (.pick t8 vT t12)]) (.cond t13 (.seq (rg 4 [oP 4 (.mv (.v (.int .i64 (-1))))]) (.cn [4] .ret)) .skip)) (.seq (.seq (rg 5 [oP 5 (.mv (vI 1))]) (.block 0 (.cn [0,1,5] (.sub 0 zaf_b0)))) (.seq (rg 4 [oM 32 t1,oM 4 t32]) (.cn [4] .ret)))))
def qD8(at_ left:Int)(v:List Eng.Node):Option ((Int × Int) ⊕ Int) :=
 bif((decide ((0:Int)<left)) && (decide (at_<(v.length:Int)))) then(gd (0<=at_/\at_<v.length)<|gd (at_.toNat<v.length)<|gd (at_.toNat<v.length)<|gd (qAc (at_+(1:Int)))<|some (.inl ((at_+(1:Int)),w64 (left+(w64 (((v.getD at_.toNat (ET.dft .node)).kids) - (1:Int))))))) else(some (.inr at_))
def zaf_p0(at_ left:Int)(v:List Eng.Node):Option Int :=
 qAr (λx:(Int × Int)=>qD8 x.1 x.2 v) (at_,left)
def zaf_s(v:(List Eng.Node))(at_:Int):Option Int :=
 bif((decide (at_<(0:Int))) || (decide ((v.length:Int)<=at_))) then(some (-1:Int)) else((zaf_p0 at_ (1:Int) v).bind λo1 =>some o1)
def zaf_G:Nat->Option CQ:=tblQ []
def zaf_d0:=(dQS (qAb (dSO 0 (dO 0)) (qAb (dSO 1 dZ) (qAb (dSO 5 dZ) dNil))) (qAb (qBw .node) dNil))
def zaf_l0:SubQ:=mkL zaf_d0 (λx=>zaf_p0 x.1.2.1 x.1.2.2.1 x.2.1) λx r R kn kx kr=>kx 0 ⟨[sL 1 (.vI r)],[],[.view .node x.2.1]⟩
def zaf_L:Nat->SubQ:=tblL [(0,zaf_l0)]
theorem zaf_sub0:qA3 zaf_L zaf_G 1 6 33 0 zaf_b0:=qAj (show zaf_L 0=zaf_l0 from by kernel_rfl) λx R kn kx kr=>qAh (step:=λy=>qD8 y.1 y.2 x.2.1) (enc:=λ(y:Int × Int)=>zaf_d0.e ((x.1.1,y.1,y.2,x.1.2.2.2),x.2)) (λy=>by kernel_rfl) (λy ki=>by simp only[qD8,-eq_self,sZ];kernel_rfl) (x.1.2.1,x.1.2.2.1)
def zaf_c:CS:=mkC (qAb (dVC (dCO (dO 0))) (qAb (dVC (dCO dZ)) dNil)) (qAb (qBw .node) dNil) (λx y=>zaf_s y.1 x.2.1) (λx y r=>.c (.o (.vI r))) λx y r=>[.view .node y.1]
theorem zaf_val:qAi Tryd.prog 20 zaf_c:=vl1 zaf_q [.tmp 4] 33 6 1 (raws:=[30,31]) (show qAt zaf_L zaf_G 1 6 33 [(0,zaf_b0)] from⟨zaf_sub0,tV⟩) (λf C h=>by cases h) λx y=>by
 simp only[zaf_s,-eq_self,sZ];kernel_rfl
def zaf_w:CQ:=qB7 [(0,none,some (.node,37))] (qDx [false] zaf_c)
theorem zaf_ok:qAg Tryd.prog 20 zaf_w:=qFk zaf_val
def zag_b0:IQ:=(.loop [0,1,5,6,7] (.seq (.seq (rg 34 [oM 18 t7,oM 19 t0,oM 20 t1,oP 21 (.iaddr 6 t19 t20),oP 22 (.faddr 5 t21),oP 23 (.load none t22),oP 24 (.bi .lss t18 t23),oM 25 t24,oF 26 (.mv t6) 25,oF 27 (.bi .geq t26 (vI 0)) 25,oP 28 (.pick t25 t27 vF),oM 29 t28,oF 30 (.mv t6) 29,oF 31 (.mv t0) 29,oF 32 (.len t31) 29,oF 33 (.bi .lss t30 t32) 29,oP 34 (.pick t29 t33 vF)]) (.cond t34 .skip (.cn [5] (.exit 0)))) (.seq (.block 1 (.seq (rg 5 [oM 37 t5,oM 38 t6,oP 39 (.bslice 3 1 1 [.int .i64 0] [(0,t38)]),oP 40 (.append 3 1 8 [.int .i64 0] t37 t39),oM 5 t40]) (rg 6 [oM 41 t0,oM 42 t6,oP 43 (.call 20 [t41,t42]),oM 6 t43]))) (rg 7 [oM 35 t7,oP 36 (.bi .add t35 (vI 1)),oM 7 t36]))))
def zag_q:IQ:=(.seq (rg 4 [oP 4 (.mv (.v (.slice none 0 0)))]) (.seq (.seq (rg 15 [oM 8 t1,oP 9 (.bi .lss t8 (vI 0)),oM 10 t9,oE 11 (.mv t1) 10,oE 12 (.mv t0) 10,oE 13 (.len t12) 10,oE 14 (.bi .geq t11 t13) 10,oP 15 (.pick t10 vT t14)]) (.cond t15 (.seq (rg 4 [oP 4 (.mv (.v (.slice none 0 0)))]) (.canon [(4,none,.i64,3)] [4] .ret)) .skip)) (.seq (rg 5 [oP 5 (.mv (.v (.slice none 0 0)))]) (.seq (rg 6 [oM 16 t1,oP 17 (.bi .add t16 (vI 1)),oM 6 t17]) (.seq (.seq (rg 7 [oP 7 (.mv (vI 0))]) (.block 0 (.canon [(5,none,.i64,3)] [0,1,5,6,7] (.sub 0 zag_b0)))) (.seq (rg 4 [oM 44 t5,oM 4 t44]) (.canon [(4,none,.i64,3)] [4] .ret)))))))
def qFz(at_ next i:Int)(v:List Eng.Node)(out:List Int):Option ((Int × Int × (List Int)) ⊕ ((List Int))) :=
 gd (0<=at_/\at_<v.length)<|gd (at_.toNat<v.length)<|gd (at_.toNat<v.length)<|bif(((decide (i<((v.getD at_.toNat (ET.dft .node)).kids))) && (decide ((0:Int)<=next))) && (decide (next<(v.length:Int)))) then(gd (out.length+([next]:List Int).length<=9223372036854775807/\(out.length+([next]:List Int).length)*8<=140737488355328)<|(zaf_s v next).bind λr5 =>gd (qAc (i+(1:Int)))<|some (.inl (r5,(i+(1:Int)),(out++[next])))) else(some (.inr out))
def zag_p0(at_ next i:Int)(v:List Eng.Node)(out:List Int):Option ((List Int)) :=
 qAr (λx:(Int × Int × (List Int))=>qFz at_ x.1 x.2.1 v x.2.2) (next,i,out)
def zag_s(v:(List Eng.Node))(at_:Int):Option ((List Int)) :=
 bif((decide (at_<(0:Int))) || (decide ((v.length:Int)<=at_))) then(some []) else(gd (qAc (at_+(1:Int)))<|(zag_p0 at_ (at_+(1:Int)) (0:Int) v []).bind λo6 =>some o6)
def zag_G:Nat->Option CQ:=tblQ [(20,zaf_w)]
def zag_d0:=(dQS (qAb (dSO 0 (dO 0)) (qAb (dSO 1 dZ) (qAb (dSO 5 (dO 1)) (qAb (dSO 6 dZ) (qAb (dSO 7 dZ) dNil))))) (qAb (qBw .node) (qAb (dRow .i64 3) dNil)))
def zag_l0:SubQ:=mkL zag_d0 (λx=>zag_p0 x.1.2.1 x.1.2.2.2.1 x.1.2.2.2.2.1 x.2.1 x.2.2.1) λx r R kn kx kr=>kx 0 ⟨[sL 5 (.own 1)],[],[.view .node x.2.1,.row .i64 3 r]⟩
def zag_L:Nat->SubQ:=tblL [(0,zag_l0)]
theorem zag_sub0:qA3 zag_L zag_G 1 8 45 0 zag_b0:=qAj (show zag_L 0=zag_l0 from by kernel_rfl) λx R kn kx kr=>qAh (step:=λy=>qFz x.1.2.1 y.1 y.2.1 x.2.1 y.2.2) (enc:=λ(y:Int × Int × (List Int))=>zag_d0.e ((x.1.1,x.1.2.1,x.1.2.2.1,y.1,y.2.1,x.1.2.2.2.2.2),(x.2.1,y.2.2,x.2.2.2))) (λy=>by kernel_rfl) (λy ki=>by simp only[qFz,-eq_self,sZ];kernel_rfl) (x.1.2.2.2.1,x.1.2.2.2.2.1,x.2.2.1)
def zag_c:CS:=mkC (qAb (dVC (dCO (dO 0))) (qAb (dVC (dCO dZ)) dNil)) (qAb (qBw .node) dNil) (λx y=>zag_s y.1 x.2.1) (λx y r=>.c (.o (.own 1))) λx y r=>[.view .node y.1,.row .i64 3 r]
theorem zag_val:qAi Tryd.prog 12 zag_c:=vl1 zag_q [.tmp 4] 45 8 1 (show qAt zag_L zag_G 1 8 45 [(0,zag_b0)] from⟨zag_sub0,tV⟩) (qAk ⟨zaf_ok,tV⟩) λx y=>by
 simp only[zag_s,-eq_self,sZ];kernel_rfl
def zag_w:CQ:=qB7 [(0,none,some (.node,37))] (qBz [false] zag_c)
theorem zag_ok:qAg Tryd.prog 12 zag_w:=qAu zag_val
end
open Go.RowKit Go.Lib
def qGj(n b0 b1 b2:Nat):Bool :=
 if n=0 then false else if Lib.firstT b0 % 8<=n then true else if 1<n/\(b1<Lib.accLo (Lib.firstT b0 / 16)\/Lib.accHi (Lib.firstT b0 / 16)<b1) then true else if 2<n/\(b2<128\/191<b2) then true else false
structure HidF (p:Prop):Prop where
 out:p
theorem belowN{B:Nat}{a w:World}(h:Below B a w)(n:Nat):Below B a (w.drewN n):=h.trans ⟨rfl,rfl,rfl,Nat.le_refl _,λ_ _=>rfl⟩
theorem emB:∀a b:Bool,a=true\/a=false/\(b=true\/b=false):=by decide
theorem emD:∀a b c d:Bool,a=true\/a=false/\(b=true\/b=false/\(c=true\/c=false/\(d=true\/d=false))):=by decide
def fullS(s:BA):Bool:=qGj s.size (s.get! 0).toNat (s.get! 1).toNat (s.get! 2).toNat
set_option maxHeartbeats 4000000 in
set_option maxRecDepth 1000000 in
theorem full_run(s:BA)(w:World)(hS:s.size<=9223372036854775807)(hT:Lib.Utf8Tabs 0 1 w) :
  Calls Tryd.prog 61 #[.string s] w λe w'=>e=.returned (.bool (fullS s))/\Below w.heap.size w w':=by
 unfold fullS;by_cases h0:s.size=0
 ·have hz:(s.size:Int)=0:=by omega
  rw[qGj,if_pos h0];go_enter Tryd.func61,Tryd.ntmps61
  go_wp2
  go_ret
  exact⟨rfl,Below.refl _ _⟩
 ·have hz0:(0:Int)<(s.size:Int):=by omega
  have hz0':¬((s.size:Int)=0):=by omega
  obtain⟨x0,hx0⟩:∃x,s.get! 0=x:=⟨_,rfl⟩;obtain⟨x1,hx1⟩:∃x,s.get! 1=x:=⟨_,rfl⟩;obtain⟨x2,hx2⟩:∃x,s.get! 2=x:=⟨_,rfl⟩;have hs0:s[0]'(by omega)=x0:=by rw[<-hx0];exact(Utf8W.get!_of_lt s 0 (by omega)).symm
  have l0:=x0.toNat_lt;have l1:=x1.toNat_lt;have l2:=x2.toNat_lt;have hc0:=hT.1 x0.toNat (by omega);rw[hx0,hx1,hx2];rcases Lib.firstT_cases x0.toNat with hX | hX | hX | hX | hX | hX | hX | hX | hX
  ·rw[qGj,if_neg h0,hX,if_pos (by omega)];rw[hX] at hc0;have hz1:((0:Int)<=(s.size:Int)):=by omega
   clear hT hX;go_enter Tryd.func61,Tryd.ntmps61
   go_wp2
   go_ret
   exact⟨rfl,Below.refl _ _⟩
  ·rw[qGj,if_neg h0,hX,if_pos (by omega)];rw[hX] at hc0;have hz1:((1:Int)<=(s.size:Int)):=by omega
   clear hT hX;go_enter Tryd.func61,Tryd.ntmps61
   go_wp2
   go_ret
   exact⟨rfl,Below.refl _ _⟩
  ·rw[hX] at hc0;have ha0:=(hT.2 0 (by omega)).1;have ha1:=(hT.2 0 (by omega)).2;simp only[accLo,accHi,Nat.reduceMul,Nat.reduceAdd,Nat.reduceEqDiff,if_true,if_false,Nat.reduceMod,Nat.reduceDiv] at ha0 ha1;generalize hr:qGj s.size x0.toNat x1.toNat x2.toNat=r
   rw[qGj,if_neg h0,hX] at hr;simp only[Nat.reduceMod,Nat.reduceDiv,accLo,accHi,Nat.reduceEqDiff,if_true,if_false] at hr;clear hT hX;by_cases hk:2<=s.size
   ·have hz1:((2:Int)<=(s.size:Int)):=by omega
    rw[if_pos (by omega)] at hr;subst hr;go_enter Tryd.func61,Tryd.ntmps61
    go_wp2
    go_ret
    exact⟨rfl,Below.refl _ _⟩
   ·have Hr:=(HidF.mk hr);clear hr;rcases (show(s.size:Int)=1 by omega) with hz
    all_goals
     go_enter Tryd.func61,Tryd.ntmps61
     go_wp2
     go_quiet (fail)
     go_wp2
     all_goals (go_ret;refine⟨?_,belowN ((Below.refl _ _).alloc (Nat.le_refl _) _) _⟩;rw[<-Hr.out];(repeat' split) <;> first | rfl | (exfalso;first | omega | (simp only[decide_eq_true_eq,decide_eq_false_iff_not] at *;omega)))
  ·rw[hX] at hc0;have ha0:=(hT.2 1 (by omega)).1;have ha1:=(hT.2 1 (by omega)).2;simp only[accLo,accHi,Nat.reduceMul,Nat.reduceAdd,Nat.reduceEqDiff,if_true,if_false,Nat.reduceMod,Nat.reduceDiv] at ha0 ha1;generalize hr:qGj s.size x0.toNat x1.toNat x2.toNat=r
   rw[qGj,if_neg h0,hX] at hr;simp only[Nat.reduceMod,Nat.reduceDiv,accLo,accHi,Nat.reduceEqDiff,if_true,if_false] at hr;clear hT hX;by_cases hk:3<=s.size
   ·have hz1:((3:Int)<=(s.size:Int)):=by omega
    rw[if_pos (by omega)] at hr;subst hr;go_enter Tryd.func61,Tryd.ntmps61
    go_wp2
    go_ret
    exact⟨rfl,Below.refl _ _⟩
   ·have Hr:=(HidF.mk hr);clear hr;rcases (show(s.size:Int)=1\/(s.size:Int)=2 by omega) with hz | hz
    rotate_left 1
    have hs1:s[1]'(by omega)=x1:=by rw[<-hx1];exact(Utf8W.get!_of_lt s 1 (by omega)).symm
    rcases emB (decide ((x1.toNat:Int)<160)) (decide ((191:Int)<(x1.toNat:Int))) with d0 | ⟨d0,d1 | d1⟩
    all_goals
     go_enter Tryd.func61,Tryd.ntmps61
     go_wp2
     go_quiet (fail)
     go_wp2
     all_goals (go_ret;refine⟨?_,belowN ((Below.refl _ _).alloc (Nat.le_refl _) _) _⟩;rw[<-Hr.out];(repeat' split) <;> first | rfl | (exfalso;first | omega | (simp only[decide_eq_true_eq,decide_eq_false_iff_not] at *;omega)))
  ·rw[hX] at hc0;have ha0:=(hT.2 0 (by omega)).1;have ha1:=(hT.2 0 (by omega)).2;simp only[accLo,accHi,Nat.reduceMul,Nat.reduceAdd,Nat.reduceEqDiff,if_true,if_false,Nat.reduceMod,Nat.reduceDiv] at ha0 ha1;generalize hr:qGj s.size x0.toNat x1.toNat x2.toNat=r
   rw[qGj,if_neg h0,hX] at hr;simp only[Nat.reduceMod,Nat.reduceDiv,accLo,accHi,Nat.reduceEqDiff,if_true,if_false] at hr;clear hT hX;by_cases hk:3<=s.size
   ·have hz1:((3:Int)<=(s.size:Int)):=by omega
    rw[if_pos (by omega)] at hr;subst hr;go_enter Tryd.func61,Tryd.ntmps61
    go_wp2
    go_ret
    exact⟨rfl,Below.refl _ _⟩
   ·have Hr:=(HidF.mk hr);clear hr;rcases (show(s.size:Int)=1\/(s.size:Int)=2 by omega) with hz | hz
    rotate_left 1
    have hs1:s[1]'(by omega)=x1:=by rw[<-hx1];exact(Utf8W.get!_of_lt s 1 (by omega)).symm
    rcases emB (decide ((x1.toNat:Int)<128)) (decide ((191:Int)<(x1.toNat:Int))) with d0 | ⟨d0,d1 | d1⟩
    all_goals
     go_enter Tryd.func61,Tryd.ntmps61
     go_wp2
     go_quiet (fail)
     go_wp2
     all_goals (go_ret;refine⟨?_,belowN ((Below.refl _ _).alloc (Nat.le_refl _) _) _⟩;rw[<-Hr.out];(repeat' split) <;> first | rfl | (exfalso;first | omega | (simp only[decide_eq_true_eq,decide_eq_false_iff_not] at *;omega)))
  ·rw[hX] at hc0;have ha0:=(hT.2 2 (by omega)).1;have ha1:=(hT.2 2 (by omega)).2;simp only[accLo,accHi,Nat.reduceMul,Nat.reduceAdd,Nat.reduceEqDiff,if_true,if_false,Nat.reduceMod,Nat.reduceDiv] at ha0 ha1;generalize hr:qGj s.size x0.toNat x1.toNat x2.toNat=r
   rw[qGj,if_neg h0,hX] at hr;simp only[Nat.reduceMod,Nat.reduceDiv,accLo,accHi,Nat.reduceEqDiff,if_true,if_false] at hr;clear hT hX;by_cases hk:3<=s.size
   ·have hz1:((3:Int)<=(s.size:Int)):=by omega
    rw[if_pos (by omega)] at hr;subst hr;go_enter Tryd.func61,Tryd.ntmps61
    go_wp2
    go_ret
    exact⟨rfl,Below.refl _ _⟩
   ·have Hr:=(HidF.mk hr);clear hr;rcases (show(s.size:Int)=1\/(s.size:Int)=2 by omega) with hz | hz
    rotate_left 1
    have hs1:s[1]'(by omega)=x1:=by rw[<-hx1];exact(Utf8W.get!_of_lt s 1 (by omega)).symm
    rcases emB (decide ((x1.toNat:Int)<128)) (decide ((159:Int)<(x1.toNat:Int))) with d0 | ⟨d0,d1 | d1⟩
    all_goals
     go_enter Tryd.func61,Tryd.ntmps61
     go_wp2
     go_quiet (fail)
     go_wp2
     all_goals (go_ret;refine⟨?_,belowN ((Below.refl _ _).alloc (Nat.le_refl _) _) _⟩;rw[<-Hr.out];(repeat' split) <;> first | rfl | (exfalso;first | omega | (simp only[decide_eq_true_eq,decide_eq_false_iff_not] at *;omega)))
  ·rw[hX] at hc0;have ha0:=(hT.2 3 (by omega)).1;have ha1:=(hT.2 3 (by omega)).2;simp only[accLo,accHi,Nat.reduceMul,Nat.reduceAdd,Nat.reduceEqDiff,if_true,if_false,Nat.reduceMod,Nat.reduceDiv] at ha0 ha1;generalize hr:qGj s.size x0.toNat x1.toNat x2.toNat=r
   rw[qGj,if_neg h0,hX] at hr;simp only[Nat.reduceMod,Nat.reduceDiv,accLo,accHi,Nat.reduceEqDiff,if_true,if_false] at hr;clear hT hX;by_cases hk:4<=s.size
   ·have hz1:((4:Int)<=(s.size:Int)):=by omega
    rw[if_pos (by omega)] at hr;subst hr;go_enter Tryd.func61,Tryd.ntmps61
    go_wp2
    go_ret
    exact⟨rfl,Below.refl _ _⟩
   ·have Hr:=(HidF.mk hr);clear hr;rcases (show(s.size:Int)=1\/(s.size:Int)=2\/(s.size:Int)=3 by omega) with hz | hz | hz
    rotate_left 1
    have hs1:s[1]'(by omega)=x1:=by rw[<-hx1];exact(Utf8W.get!_of_lt s 1 (by omega)).symm
    rcases emB (decide ((x1.toNat:Int)<144)) (decide ((191:Int)<(x1.toNat:Int))) with d0 | ⟨d0,d1 | d1⟩
    rotate_left 3
    have hs1:s[1]'(by omega)=x1:=by rw[<-hx1];exact(Utf8W.get!_of_lt s 1 (by omega)).symm
    have hs2:s[2]'(by omega)=x2:=by rw[<-hx2];exact(Utf8W.get!_of_lt s 2 (by omega)).symm
    rcases emD (decide ((x1.toNat:Int)<144)) (decide ((191:Int)<(x1.toNat:Int))) (decide ((x2.toNat:Int)<128)) (decide ((191:Int)<(x2.toNat:Int))) with d0 | ⟨d0,d1 | ⟨d1,d2 | ⟨d2,d3 | d3⟩⟩⟩
    all_goals
     go_enter Tryd.func61,Tryd.ntmps61
     go_wp2
     go_quiet (fail)
     go_wp2
     all_goals (go_ret;refine⟨?_,belowN ((Below.refl _ _).alloc (Nat.le_refl _) _) _⟩;rw[<-Hr.out];(repeat' split) <;> first | rfl | (exfalso;first | omega | (simp only[decide_eq_true_eq,decide_eq_false_iff_not] at *;omega)))
  ·rw[hX] at hc0;have ha0:=(hT.2 0 (by omega)).1;have ha1:=(hT.2 0 (by omega)).2;simp only[accLo,accHi,Nat.reduceMul,Nat.reduceAdd,Nat.reduceEqDiff,if_true,if_false,Nat.reduceMod,Nat.reduceDiv] at ha0 ha1;generalize hr:qGj s.size x0.toNat x1.toNat x2.toNat=r
   rw[qGj,if_neg h0,hX] at hr;simp only[Nat.reduceMod,Nat.reduceDiv,accLo,accHi,Nat.reduceEqDiff,if_true,if_false] at hr;clear hT hX;by_cases hk:4<=s.size
   ·have hz1:((4:Int)<=(s.size:Int)):=by omega
    rw[if_pos (by omega)] at hr;subst hr;go_enter Tryd.func61,Tryd.ntmps61
    go_wp2
    go_ret
    exact⟨rfl,Below.refl _ _⟩
   ·have Hr:=(HidF.mk hr);clear hr;rcases (show(s.size:Int)=1\/(s.size:Int)=2\/(s.size:Int)=3 by omega) with hz | hz | hz
    rotate_left 1
    have hs1:s[1]'(by omega)=x1:=by rw[<-hx1];exact(Utf8W.get!_of_lt s 1 (by omega)).symm
    rcases emB (decide ((x1.toNat:Int)<128)) (decide ((191:Int)<(x1.toNat:Int))) with d0 | ⟨d0,d1 | d1⟩
    rotate_left 3
    have hs1:s[1]'(by omega)=x1:=by rw[<-hx1];exact(Utf8W.get!_of_lt s 1 (by omega)).symm
    have hs2:s[2]'(by omega)=x2:=by rw[<-hx2];exact(Utf8W.get!_of_lt s 2 (by omega)).symm
    rcases emD (decide ((x1.toNat:Int)<128)) (decide ((191:Int)<(x1.toNat:Int))) (decide ((x2.toNat:Int)<128)) (decide ((191:Int)<(x2.toNat:Int))) with d0 | ⟨d0,d1 | ⟨d1,d2 | ⟨d2,d3 | d3⟩⟩⟩
    all_goals
     go_enter Tryd.func61,Tryd.ntmps61
     go_wp2
     go_quiet (fail)
     go_wp2
     all_goals (go_ret;refine⟨?_,belowN ((Below.refl _ _).alloc (Nat.le_refl _) _) _⟩;rw[<-Hr.out];(repeat' split) <;> first | rfl | (exfalso;first | omega | (simp only[decide_eq_true_eq,decide_eq_false_iff_not] at *;omega)))
  ·rw[hX] at hc0;have ha0:=(hT.2 4 (by omega)).1;have ha1:=(hT.2 4 (by omega)).2;simp only[accLo,accHi,Nat.reduceMul,Nat.reduceAdd,Nat.reduceEqDiff,if_true,if_false,Nat.reduceMod,Nat.reduceDiv] at ha0 ha1;generalize hr:qGj s.size x0.toNat x1.toNat x2.toNat=r
   rw[qGj,if_neg h0,hX] at hr;simp only[Nat.reduceMod,Nat.reduceDiv,accLo,accHi,Nat.reduceEqDiff,if_true,if_false] at hr;clear hT hX;by_cases hk:4<=s.size
   ·have hz1:((4:Int)<=(s.size:Int)):=by omega
    rw[if_pos (by omega)] at hr;subst hr;go_enter Tryd.func61,Tryd.ntmps61
    go_wp2
    go_ret
    exact⟨rfl,Below.refl _ _⟩
   ·have Hr:=(HidF.mk hr);clear hr;rcases (show(s.size:Int)=1\/(s.size:Int)=2\/(s.size:Int)=3 by omega) with hz | hz | hz
    rotate_left 1
    have hs1:s[1]'(by omega)=x1:=by rw[<-hx1];exact(Utf8W.get!_of_lt s 1 (by omega)).symm
    rcases emB (decide ((x1.toNat:Int)<128)) (decide ((143:Int)<(x1.toNat:Int))) with d0 | ⟨d0,d1 | d1⟩
    rotate_left 3
    have hs1:s[1]'(by omega)=x1:=by rw[<-hx1];exact(Utf8W.get!_of_lt s 1 (by omega)).symm
    have hs2:s[2]'(by omega)=x2:=by rw[<-hx2];exact(Utf8W.get!_of_lt s 2 (by omega)).symm
    rcases emD (decide ((x1.toNat:Int)<128)) (decide ((143:Int)<(x1.toNat:Int))) (decide ((x2.toNat:Int)<128)) (decide ((191:Int)<(x2.toNat:Int))) with d0 | ⟨d0,d1 | ⟨d1,d2 | ⟨d2,d3 | d3⟩⟩⟩
    all_goals
     go_enter Tryd.func61,Tryd.ntmps61
     go_wp2
     go_quiet (fail)
     go_wp2
     all_goals (go_ret;refine⟨?_,belowN ((Below.refl _ _).alloc (Nat.le_refl _) _) _⟩;rw[<-Hr.out];(repeat' split) <;> first | rfl | (exfalso;first | omega | (simp only[decide_eq_true_eq,decide_eq_false_iff_not] at *;omega)))
end Go.Proofs.YtbokbmjcodoccabDoor
namespace Go.Proofs
open Go.Shelf
shelf_lay Lays.n197 Nm 197 at Tryd as Tryd.laysDecode
end Go.Proofs
namespace Go.Proofs.YtbokbmjcodoccabDoor
open Go.Eng
theorem stays_below{w w':World}(h:Go.RowKit.Below w.heap.size w w'):Stays (λ_=>False) w w':=⟨h.os,h.output,h.size,λk hk _=>h.block k hk⟩
theorem given_cont{O β γ:Type}{A:Dec O (List SV)}{B:Dec β (List SB)}(f:O->Option γ)(v:γ->SV)(args:List SV)(hp:List SB)(R:Type)(k:SV->List SB->Option R) :
  ((Dec.d A args).bind λx=>(Dec.d B hp).bind λy=>(f x).bind λr=>k (v r) [])=(((Dec.d A args).bind λx=>(Dec.d B hp).bind λy=>(f x).bind λr=>some (v r,([]:List SB))):Option (SV × List SB)).bind λz=>k z.1 z.2:=by
 cases Dec.d A args with
 | none=>rfl
 | some x =>
  cases Dec.d B hp with
  | none=>rfl
  | some y=>simp only[obS,Option.bind_assoc]
def utf8_da:=(qAb (dVC (dCO dS)) dNil)
def utf8_db:=(dNil:Dec Unit (List SB))
noncomputable def qBe(s:BA):Option (Int × Int):=some (((Lib.decodeGo s).1:Int),((Lib.decodeGo s).2:Int))
noncomputable def qC7:CS:=λargs hp R k=>(Dec.d utf8_da args).bind λx=>(Dec.d utf8_db hp).bind λy=>(qBe x.1).bind λr=>k (.tup [.o (.val (.int .i32 r.1)),.o (.val (.int .i64 r.2))]) []
theorem qFy:qAi Tryd.prog 60 qC7:=by
 refine⟨λargs hp R k=>given_cont (A:=utf8_da) (B:=utf8_db) (λx=>qBe x.1) (λr=>.tup [.o (.val (.int .i32 r.1)),.o (.val (.int .i64 r.2))]) args hp R k,λargs hp v hp' hC hlt X w Z hhp=>?_⟩;obtain⟨x,h1,h2⟩:=Option.bind_eq_some_iff.1 hC;obtain⟨y,h3,h4⟩:=Option.bind_eq_some_iff.1 h2;obtain⟨r,h5,h6⟩:=Option.bind_eq_some_iff.1 h4;rw[Dec.ok _ _ _ h1];have hhp':=Dec.ok _ _ _ h3;obtain⟨s,u⟩:=x;simp only[qBe,snJ,Prod.mk.injEq] at h6 h5;obtain⟨rfl,rfl⟩:=h6;subst h5;rw[hhp'] at hhp ⊢;refine(Any.utf8_DecodeRuneInString Tryd.laysDecode s w (by first | exact hhp.tab.1 | exact hhp.tab.2.1)).mono ?_
 rintro e w' ⟨rfl,hb⟩
 obtain⟨g1,g2⟩:=hhp.past ⟨rfl,rfl,Nat.le_refl _,λk _ _=>rfl⟩ (stays_below hb);exact⟨Z,λ_ _=>rfl,Nat.le_refl _,rfl,λc hc=>by simp only[List.mem_cons,List.not_mem_nil,or_false] at hc;rcases hc with rfl | rfl <;> trivial,g1,g2⟩
noncomputable def qC8:CQ:=qDx [] qC7
theorem qGl:qAg Tryd.prog 60 qC8:=qAs qFy
noncomputable def qBt(s:BA):Option Bool:=gd (s.size<=9223372036854775807) (some (fullS s))
noncomputable def qDv:CS:=λargs hp R k=>(Dec.d utf8_da args).bind λx=>(Dec.d utf8_db hp).bind λy=>(qBt x.1).bind λr=>k (.c (.o (.val (.bool r)))) []
theorem qG2:qAi Tryd.prog 61 qDv:=by
 refine⟨λargs hp R k=>given_cont (A:=utf8_da) (B:=utf8_db) (λx=>qBt x.1) (λr=>.c (.o (.val (.bool r)))) args hp R k,λargs hp v hp' hC hlt X w Z hhp=>?_⟩;obtain⟨x,h1,h2⟩:=Option.bind_eq_some_iff.1 hC;obtain⟨y,h3,h4⟩:=Option.bind_eq_some_iff.1 h2;obtain⟨r,h5,h6⟩:=Option.bind_eq_some_iff.1 h4;obtain⟨hi,h7⟩:=gd_some.1 h5;rw[Dec.ok _ _ _ h1];have hhp':=Dec.ok _ _ _ h3;obtain⟨s,u⟩:=x;simp only[snJ,Prod.mk.injEq] at h6 h7;obtain⟨rfl,rfl⟩:=h6;simp only at hi;subst h7;rw[hhp'] at hhp ⊢;refine(full_run s w hi (by first | exact hhp.tab.1 | exact hhp.tab.2.1)).mono ?_
 rintro e w' ⟨rfl,hb⟩
 obtain⟨g1,g2⟩:=hhp.past ⟨rfl,rfl,Nat.le_refl _,λk _ _=>rfl⟩ (stays_below hb);exact⟨Z,λ_ _=>rfl,Nat.le_refl _,rfl,trivial,g1,g2⟩
noncomputable def qDw:CQ:=qDx [] qDv
theorem qHf:qAg Tryd.prog 61 qDw:=qAs qG2
end Go.Proofs.YtbokbmjcodoccabDoor
namespace Go.Proofs.YtbokbmjcodoccabDoor
open Go.Eng
set_option maxRecDepth 100000
end Go.Proofs.YtbokbmjcodoccabDoor
