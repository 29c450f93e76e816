/-
  Texts of a claim.
-/
import Derived.Shelf.Unicode.DecodeSlow
import Derived.WalkKit
import Derived.Below
import Derived.BigQuiet
import Derived.Shelf.Unicode.ValidAny
import Derived.Shelf.Unicode.DecodeAny
import Derived.Shelf.Lay
import Derived.Ground.NamesProg
import Derived.Lib.ValidLaws
import Derived.Lib.DecodeNEq
import Derived.Test.YtnifdcmeffnpaaaDoorDecRel
import Derived.Test.YtnifdcmeffnpaaaDoorGC
import Derived.Test.YtnifdcmeffnpaaaDoorEngO
import Derived.Test.YtnifdcmeffnpaaaDoorProg
import Derived.Test.YtnifdcmeffnpaaaDoorEngH
namespace Go.Proofs.YtnifdcmeffnpaaaDoor
open Go.Eng
set_option linter.unusedVariables false
set_option linter.unusedSimpArgs false
structure DKey where
 ds:List Int
 pow:Int
def Dig (l:List Int):Prop:=∀d∈l,0≤d∧d≤9
def LastNZ:List Int→Prop
 | []=>True
 | [d]=>d≠0
 | _::l=>LastNZ l
structure Norm (a:DKey):Prop where
 dig:Dig a.ds
 last:LastNZ a.ds
 first:∀d,a.ds.head?=some d→d≠0
end Go.Proofs.YtnifdcmeffnpaaaDoor
namespace Go.Proofs.YtnifdcmeffnpaaaDoor
open Go.Eng
set_option linter.unusedVariables false
set_option linter.unusedSimpArgs false
end Go.Proofs.YtnifdcmeffnpaaaDoor
namespace Go.Proofs.YtnifdcmeffnpaaaDoor
open Go.Eng
set_option linter.unusedVariables false
set_option linter.unusedSimpArgs false
end Go.Proofs.YtnifdcmeffnpaaaDoor
namespace Go.Proofs.YtnifdcmeffnpaaaDoor
open Go.Eng
set_option linter.unusedVariables false
set_option linter.unusedSimpArgs false
def chr (d:Int):UInt8:=UInt8.ofNat ((48+d) % 256).toNat
def byteD (l:List Int):List UInt8:=l.map chr
def dotF (F:List Int):List UInt8:=if F=[] then [] else 46::byteD F
structure NumTxt (t:BA) (W F:List Int):Prop where
 txt:t.data.toList=byteD W++dotF F
 dw:Dig W
 df:Dig F
 ne:W≠[]
 head:W.head?≠some 0∨W.length=1
section
variable {t:BA} {W F:List Int} (h:NumTxt t W F)
include h
end
end Go.Proofs.YtnifdcmeffnpaaaDoor
namespace Go.Proofs.YtnifdcmeffnpaaaDoor
open Go.Eng
set_option linter.unusedVariables false
set_option linter.unusedSimpArgs false
section
variable (s:BA) (hsz:s.size<1000000000)
include hsz
end
section
variable (s:BA) (hsz:s.size<1000000000)
include hsz
end
end Go.Proofs.YtnifdcmeffnpaaaDoor
namespace Go.Proofs.YtnifdcmeffnpaaaDoor
open Go.Eng
set_option linter.unusedVariables false
set_option linter.unusedSimpArgs false
set_option maxRecDepth 100000
noncomputable section
def zaf_b0:IQ:=(.loop [0,1,5] (.seq (.seq (rg 21 [oM 14 t5,oP 15 (.bi .gtr t14 (vI 0)),oM 16 t15,oF 17 (.mv t1) 16,oF 18 (.mv t0) 16,oF 19 (.len t18) 16,oF 20 (.bi .lss t17 t19) 16,oP 21 (.pick t16 t20 vF)]) (.cond t21 .skip (.cn [1] (.exit 0)))) (.seq (.block 1 (rg 5 [oM 24 t5,oM 25 t0,oM 26 t1,oP 27 (.iaddr 6 t25 t26),oP 28 (.faddr 5 t27),oP 29 (.load none t28),oP 30 (.bin true .sub t29 (vI 1)),oP 31 (.bin true .add t24 t30),oM 5 t31])) (rg 1 [oM 22 t1,oP 23 (.bi .add t22 (vI 1)),oM 1 t23]))))
def zaf_q:IQ:=(.seq (rg 4 [oP 4 (.mv (vI 0))]) (.seq (.seq (rg 13 [oM 6 t1,oP 7 (.bi .lss t6 (vI 0)),oM 8 t7,oE 9 (.mv t1) 8,oE 10 (.mv t0) 8,oE 11 (.len t10) 8,oE 12 (.bi .geq t9 t11) 8,oP 13 (.pick t8 vT t12)]) (.cond t13 (.seq (rg 4 [oP 4 (.mv (.v (.int .i64 (-1))))]) (.cn [4] .ret)) .skip)) (.seq (.seq (rg 5 [oP 5 (.mv (vI 1))]) (.block 0 (.cn [0,1,5] (.sub 0 zaf_b0)))) (.seq (rg 4 [oM 32 t1,oM 4 t32]) (.cn [4] .ret)))))
theorem zaf_chk:chk Tryd.prog 14 [30,31]=some (zaf_q.erase,[.tmp 4],33):=by kernel_rfl
def qDf (at_ left:Int) (v:List Eng.Node):Option ((Int × Int) ⊕ Int) :=
 bif ((decide ((0:Int)<left)) && (decide (at_<(v.length:Int)))) then (
  gd (0≤at_∧at_<v.length) <|
  gd ((Int.toNat at_)<v.length) <|
  gd ((Int.toNat at_)<v.length) <|
  gd (qAj (at_+(1:Int))) <|
  some (.inl ((at_+(1:Int)),w64 (left+(w64 (((v.getD (Int.toNat at_) (ET.dft .node)).kids) - (1:Int)))))))
 else (
  some (.inr at_))
def zaf_p0 (at_ left:Int) (v:List Eng.Node):Option Int :=
 qBh (fun x:(Int × Int)=>qDf x.1 x.2 v) (at_,left)
def zaf_s (v:(List Eng.Node)) (at_:Int):Option Int :=
 bif ((decide (at_<(0:Int))) || (decide ((v.length:Int)≤at_))) then (
  some (-1:Int))
 else (
  (zaf_p0 at_ (1:Int) v).bind fun o1 =>
  some o1)
def zaf_G:Nat→Option CQ:=tblQ []
theorem zaf_Gok:∀f C,zaf_G f=some C→qAe Tryd.prog f C:=fun f C h=>by cases h
def zaf_d0:=(dQS (qAb (dSO 0 (dO 0)) (qAb (dSO 1 dZ) (qAb (dSO 5 dZ) dNil))) (qAb (qA9 .node) dNil))
def zaf_l0:SubQ:=mkL zaf_d0 (fun x=>zaf_p0 x.1.2.1 x.1.2.2.1 x.2.1) fun x r R kn kx kr=>kx 0 ⟨[sL 1 (.vI r)],[],[.view .node x.2.1]⟩
def zaf_L:Nat→SubQ:=tblL [(0,zaf_l0)]
theorem zaf_sub0:qBr zaf_L zaf_G 1 6 33 0 zaf_b0:=qAu (show zaf_L 0=zaf_l0 from by kernel_rfl) fun x R kn kx kr=>qAs (step:=fun y=>qDf y.1 y.2 x.2.1) (enc:=fun (y:Int × Int)=>zaf_d0.e ((x.1.1,y.1,y.2,x.1.2.2.2),x.2)) (fun y=>by kernel_rfl) (fun y ki=>by simp only [qDf,-eq_self,qAd,qAg,obA,obS,slL,slR,qAc]; kernel_rfl) (x.1.2.1,x.1.2.2.1)
theorem zaf_subs:qAo zaf_L zaf_G 1 6 33 zaf_q:=qAk (show qAp zaf_L zaf_G 1 6 33 [(0,zaf_b0)] from ⟨zaf_sub0,tV⟩)
def zaf_da:=(qAb (dVC (dCO (dO 0))) (qAb (dVC (dCO dZ)) dNil))
def zaf_db:=(qAb (qA9 .node) dNil)
def zaf_c:CS:=mkC zaf_da zaf_db (fun x y=>zaf_s y.1 x.2.1) (fun x y r=>.c (.o (.vI r))) fun x y r=>[.view .node y.1]
theorem zaf_val:qAl Tryd.prog 14 zaf_c:=qAm zaf_chk 6 zaf_Gok 1 (fun x=>Nat.le_of_ble_eq_true rfl) (fun y=>rfl) zaf_subs fun x y=>by
 simp only [zaf_s,-eq_self,qAd,qAg,obA,obS,slL,slR,qAc];kernel_rfl
def zaf_w:CQ:=qBj [(0,none,some (.node,34))] (qC3 [false] zaf_c)
theorem zaf_ok:qAe Tryd.prog 14 zaf_w:=qB0 zaf_val
def zag_b0:IQ:=(.loop [0,1,5,6,7] (.seq (.seq (rg 34 [oM 18 t7,oM 19 t0,oM 20 t1,oP 21 (.iaddr 6 t19 t20),oP 22 (.faddr 5 t21),oP 23 (.load none t22),oP 24 (.bi .lss t18 t23),oM 25 t24,oF 26 (.mv t6) 25,oF 27 (.bi .geq t26 (vI 0)) 25,oP 28 (.pick t25 t27 vF),oM 29 t28,oF 30 (.mv t6) 29,oF 31 (.mv t0) 29,oF 32 (.len t31) 29,oF 33 (.bi .lss t30 t32) 29,oP 34 (.pick t29 t33 vF)]) (.cond t34 .skip (.cn [5] (.exit 0)))) (.seq (.block 1 (.seq (rg 5 [oM 37 t5,oM 38 t6,oP 39 (.bslice 3 1 1 [.int .i64 0] [(0,t38)]),oP 40 (.append 3 1 8 [.int .i64 0] t37 t39),oM 5 t40]) (rg 6 [oM 41 t0,oM 42 t6,oP 43 (.call 14 [t41,t42]),oM 6 t43]))) (rg 7 [oM 35 t7,oP 36 (.bi .add t35 (vI 1)),oM 7 t36]))))
def zag_q:IQ:=(.seq (rg 4 [oP 4 (.mv (.v (.slice none 0 0)))]) (.seq (.seq (rg 15 [oM 8 t1,oP 9 (.bi .lss t8 (vI 0)),oM 10 t9,oE 11 (.mv t1) 10,oE 12 (.mv t0) 10,oE 13 (.len t12) 10,oE 14 (.bi .geq t11 t13) 10,oP 15 (.pick t10 vT t14)]) (.cond t15 (.seq (rg 4 [oP 4 (.mv (.v (.slice none 0 0)))]) (.canon [(4,none,.i64,3)] [4] .ret)) .skip)) (.seq (rg 5 [oP 5 (.mv (.v (.slice none 0 0)))]) (.seq (rg 6 [oM 16 t1,oP 17 (.bi .add t16 (vI 1)),oM 6 t17]) (.seq (.seq (rg 7 [oP 7 (.mv (vI 0))]) (.block 0 (.canon [(5,none,.i64,3)] [0,1,5,6,7] (.sub 0 zag_b0)))) (.seq (rg 4 [oM 44 t5,oM 4 t44]) (.canon [(4,none,.i64,3)] [4] .ret)))))))
theorem zag_chk:chk Tryd.prog 10 []=some (zag_q.erase,[.tmp 4],45):=by kernel_rfl
def qEo (at_ next i:Int) (v:List Eng.Node) (out:List Int):Option ((Int × Int × (List Int)) ⊕ ((List Int))) :=
 gd (0≤at_∧at_<v.length) <|
 gd ((Int.toNat at_)<v.length) <|
 gd ((Int.toNat at_)<v.length) <|
 bif (((decide (i<((v.getD (Int.toNat at_) (ET.dft .node)).kids))) && (decide ((0:Int)≤next))) && (decide (next<(v.length:Int)))) then (
  gd (out.length+([next]:List Int).length≤9223372036854775807∧(out.length+([next]:List Int).length)*8≤140737488355328) <|
  (zaf_s v next).bind fun r5 =>
  gd (qAj (i+(1:Int))) <|
  some (.inl (r5,(i+(1:Int)),(out++[next]))))
 else (
  some (.inr out))
def zag_p0 (at_ next i:Int) (v:List Eng.Node) (out:List Int):Option ((List Int)) :=
 qBh (fun x:(Int × Int × (List Int))=>qEo at_ x.1 x.2.1 v x.2.2) (next,i,out)
def zag_s (v:(List Eng.Node)) (at_:Int):Option ((List Int)) :=
 bif ((decide (at_<(0:Int))) || (decide ((v.length:Int)≤at_))) then (
  some [])
 else (
  gd (qAj (at_+(1:Int))) <|
  (zag_p0 at_ (at_+(1:Int)) (0:Int) v []).bind fun o6 =>
  some o6)
def zag_G:Nat→Option CQ:=tblQ [(14,zaf_w)]
theorem zag_Gok:∀f C,zag_G f=some C→qAe Tryd.prog f C:=qAi ⟨zaf_ok,tV⟩
def zag_d0:=(dQS (qAb (dSO 0 (dO 0)) (qAb (dSO 1 dZ) (qAb (dSO 5 (dO 1)) (qAb (dSO 6 dZ) (qAb (dSO 7 dZ) dNil))))) (qAb (qA9 .node) (qAb (dRow .i64 3) dNil)))
def zag_l0:SubQ:=mkL zag_d0 (fun x=>zag_p0 x.1.2.1 x.1.2.2.2.1 x.1.2.2.2.2.1 x.2.1 x.2.2.1) fun x r R kn kx kr=>kx 0 ⟨[sL 5 (.own 1)],[],[.view .node x.2.1,.row .i64 3 r]⟩
def zag_L:Nat→SubQ:=tblL [(0,zag_l0)]
theorem zag_sub0:qBr zag_L zag_G 1 8 45 0 zag_b0:=qAu (show zag_L 0=zag_l0 from by kernel_rfl) fun x R kn kx kr=>qAs (step:=fun y=>qEo x.1.2.1 y.1 y.2.1 x.2.1 y.2.2) (enc:=fun (y:Int × Int × (List Int))=>zag_d0.e ((x.1.1,x.1.2.1,x.1.2.2.1,y.1,y.2.1,x.1.2.2.2.2.2),(x.2.1,y.2.2,x.2.2.2))) (fun y=>by kernel_rfl) (fun y ki=>by simp only [qEo,-eq_self,qAd,qAg,obA,obS,slL,slR,qAc]; kernel_rfl) (x.1.2.2.2.1,x.1.2.2.2.2.1,x.2.2.1)
theorem zag_subs:qAo zag_L zag_G 1 8 45 zag_q:=qAk (show qAp zag_L zag_G 1 8 45 [(0,zag_b0)] from ⟨zag_sub0,tV⟩)
def zag_da:=(qAb (dVC (dCO (dO 0))) (qAb (dVC (dCO dZ)) dNil))
def zag_db:=(qAb (qA9 .node) dNil)
def zag_c:CS:=mkC zag_da zag_db (fun x y=>zag_s y.1 x.2.1) (fun x y r=>.c (.o (.own 1))) fun x y r=>[.view .node y.1,.row .i64 3 r]
theorem zag_val:qAl Tryd.prog 10 zag_c:=qAm zag_chk 8 zag_Gok 1 (fun x=>Nat.le_of_ble_eq_true rfl) (fun y=>rfl) zag_subs fun x y=>by
 simp only [zag_s,-eq_self,qAd,qAg,obA,obS,slL,slR,qAc];kernel_rfl
def zag_w:CQ:=qBj [(0,none,some (.node,34))] (qCk [false] zag_c)
theorem zag_ok:qAe Tryd.prog 10 zag_w:=qAr zag_val
def zah_b0:IQ:=(.loop [0,1,2,7,8] (.seq (.seq (rg 43 [oM 27 t8,oM 28 t0,oM 29 t1,oP 30 (.iaddr 6 t28 t29),oP 31 (.faddr 5 t30),oP 32 (.load none t31),oP 33 (.bi .lss t27 t32),oM 34 t33,oF 35 (.mv t7) 34,oF 36 (.bi .geq t35 (vI 0)) 34,oP 37 (.pick t34 t36 vF),oM 38 t37,oF 39 (.mv t7) 38,oF 40 (.mv t0) 38,oF 41 (.len t40) 38,oF 42 (.bi .lss t39 t41) 38,oP 43 (.pick t38 t42 vF)]) (.cond t43 .skip (.cn [] (.exit 0)))) (.seq (.block 1 (.seq (.seq (rg 52 [oM 46 t0,oM 47 t7,oP 48 (.iaddr 6 t46 t47),oP 49 (.faddr 1 t48),oP 50 (.load none t49),oM 51 t2,oP 52 (.bi .eql t50 t51)]) (.cond t52 (.seq (rg 6 [oM 53 t7,oM 6 t53]) (.cn [6] .ret)) .skip)) (rg 7 [oM 54 t0,oM 55 t7,oP 56 (.call 14 [t54,t55]),oM 7 t56]))) (rg 8 [oM 44 t8,oP 45 (.bi .add t44 (vI 1)),oM 8 t45]))))
def zah_q:IQ:=(.seq (rg 6 [oP 6 (.mv (vI 0))]) (.seq (.seq (rg 24 [oM 9 t1,oP 10 (.bi .lss t9 (vI 0)),oM 11 t10,oE 12 (.mv t1) 11,oE 13 (.mv t0) 11,oE 14 (.len t13) 11,oE 15 (.bi .geq t12 t14) 11,oP 16 (.pick t11 vT t15),oM 17 t16,oE 18 (.mv t0) 17,oE 19 (.mv t1) 17,oE 20 (.iaddr 6 t18 t19) 17,oE 21 (.faddr 0 t20) 17,oE 22 (.load none t21) 17,oE 23 (.bi .neq t22 (vI 7)) 17,oP 24 (.pick t17 vT t23)]) (.cond t24 (.seq (rg 6 [oP 6 (.mv (.v (.int .i64 (-1))))]) (.cn [6] .ret)) .skip)) (.seq (rg 7 [oM 25 t1,oP 26 (.bi .add t25 (vI 1)),oM 7 t26]) (.seq (.seq (rg 8 [oP 8 (.mv (vI 0))]) (.block 0 (.cn [0,1,2,7,8] (.sub 0 zah_b0)))) (.seq (rg 6 [oP 6 (.mv (.v (.int .i64 (-1))))]) (.cn [6] .ret))))))
theorem zah_chk:chk Tryd.prog 9 []=some (zah_q.erase,[.tmp 6],57):=by kernel_rfl
def qDp (at_:Int) (key:BA) (next i:Int) (v:List Eng.Node):Option ((Int × Int) ⊕ (Int ⊕ Unit)) :=
 gd (0≤at_∧at_<v.length) <|
 gd ((Int.toNat at_)<v.length) <|
 gd ((Int.toNat at_)<v.length) <|
 bif (((decide (i<((v.getD (Int.toNat at_) (ET.dft .node)).kids))) && (decide ((0:Int)≤next))) && (decide (next<(v.length:Int)))) then (
  gd (0≤next∧next<v.length) <|
  gd ((Int.toNat next)<v.length) <|
  gd ((Int.toNat next)<v.length) <|
  bif decide (((v.getD (Int.toNat next) (ET.dft .node)).key)=key) then (
   some (.inr (.inl next)))
  else (
   (zaf_s v next).bind fun r3 =>
   gd (qAj (i+(1:Int))) <|
   some (.inl (r3,(i+(1:Int))))))
 else (
  some (.inr (.inr ())))
def zah_p0 (at_:Int) (key:BA) (next i:Int) (v:List Eng.Node):Option (Int ⊕ Unit) :=
 qBh (fun x:(Int × Int)=>qDp at_ key x.1 x.2 v) (next,i)
def qEv (v:(List Eng.Node)) (at_:Int) (key:BA):Option Int :=
 gd (((decide (at_<(0:Int))) || (decide ((v.length:Int)≤at_)))=false→0≤at_∧at_<v.length) <|
 gd (((decide (at_<(0:Int))) || (decide ((v.length:Int)≤at_)))=false→(Int.toNat at_)<v.length) <|
 gd (((decide (at_<(0:Int))) || (decide ((v.length:Int)≤at_)))=false→(Int.toNat at_)<v.length) <|
 bif (((decide (at_<(0:Int))) || (decide ((v.length:Int)≤at_))) || (!decide (((v.getD (Int.toNat at_) (ET.dft .node)).kind)=(7:Int)))) then (
  some (-1:Int))
 else (
  gd (qAj (at_+(1:Int))) <|
  (zah_p0 at_ key (at_+(1:Int)) (0:Int) v).bind fun o4=>(Sum.elim (fun (o4_0:Int) =>
   some o4_0) (fun (o4_1:Unit) =>
   some (-1:Int))) o4)
def zah_G:Nat→Option CQ:=tblQ [(14,zaf_w)]
theorem zah_Gok:∀f C,zah_G f=some C→qAe Tryd.prog f C:=qAi ⟨zaf_ok,tV⟩
def zah_d0:=(dQS (qAb (dSO 0 (dO 0)) (qAb (dSO 1 dZ) (qAb (dSO 2 dS) (qAb (dSO 7 dZ) (qAb (dSO 8 dZ) dNil))))) (qAb (qA9 .node) dNil))
def zah_l0:SubQ:=mkL zah_d0 (fun x=>zah_p0 x.1.2.1 x.1.2.2.1 x.1.2.2.2.1 x.1.2.2.2.2.1 x.2.1) fun x r R kn kx kr=>(Sum.elim (fun (r_0:Int)=>kr ⟨[sL 6 (.vI r_0)],[],[.view .node x.2.1]⟩) (fun (r_1:Unit)=>kx 0 ⟨[],[],[.view .node x.2.1]⟩)) r
def zah_L:Nat→SubQ:=tblL [(0,zah_l0)]
theorem zah_sub0:qBr zah_L zah_G 1 9 57 0 zah_b0:=qAu (show zah_L 0=zah_l0 from by kernel_rfl) fun x R kn kx kr=>qAs (step:=fun y=>qDp x.1.2.1 x.1.2.2.1 y.1 y.2 x.2.1) (enc:=fun (y:Int × Int)=>zah_d0.e ((x.1.1,x.1.2.1,x.1.2.2.1,y.1,y.2,x.1.2.2.2.2.2),x.2)) (fun y=>by kernel_rfl) (fun y ki=>by simp only [qDp,-eq_self,qAd,qAg,obA,obS,slL,slR,qAc]; kernel_rfl) (x.1.2.2.2.1,x.1.2.2.2.2.1)
theorem zah_subs:qAo zah_L zah_G 1 9 57 zah_q:=qAk (show qAp zah_L zah_G 1 9 57 [(0,zah_b0)] from ⟨zah_sub0,tV⟩)
def zah_da:=(qAb (dVC (dCO (dO 0))) (qAb (dVC (dCO dZ)) (qAb (dVC (dCO dS)) dNil)))
def zah_db:=(qAb (qA9 .node) dNil)
def zah_c:CS:=mkC zah_da zah_db (fun x y=>qEv y.1 x.2.1 x.2.2.1) (fun x y r=>.c (.o (.vI r))) fun x y r=>[.view .node y.1]
theorem zah_val:qAl Tryd.prog 9 zah_c:=qAm zah_chk 9 zah_Gok 1 (fun x=>Nat.le_of_ble_eq_true rfl) (fun y=>rfl) zah_subs fun x y=>by
 simp only [qEv,-eq_self,qAd,qAg,obA,obS,slL,slR,qAc];kernel_rfl
def zah_w:CQ:=qBj [(0,none,some (.node,34))] (qC3 [false] zah_c)
theorem zah_ok:qAe Tryd.prog 9 zah_w:=qB0 zah_val
end
open Go.RowKit Go.Lib
def qE0 (n b0 b1 b2:Nat):Bool :=
 if n=0 then false else if Lib.firstT b0 % 8≤n then true else if 1<n∧(b1<Lib.accLo (Lib.firstT b0 / 16)∨Lib.accHi (Lib.firstT b0 / 16)<b1) then true else if 2<n∧(b2<128∨191<b2) then true else false
structure HidF (p:Prop):Prop where
 out:p
theorem belowN {B:Nat} {a w:World} (h:Below B a w) (n:Nat):Below B a (w.drewN n):=h.trans ⟨rfl,rfl,rfl,Nat.le_refl _,fun _ _=>rfl⟩
theorem emB:∀a b:Bool,a=true∨a=false∧(b=true∨b=false):=by decide
theorem emD:∀a b c d:Bool,a=true∨a=false∧(b=true∨b=false∧(c=true∨c=false∧(d=true∨d=false))):=by decide
def fullS (s:BA):Bool:=qE0 s.size (s.get! 0).toNat (s.get! 1).toNat (s.get! 2).toNat
set_option maxHeartbeats 4000000 in
set_option maxRecDepth 1000000 in
theorem full_run (s:BA) (w:World) (hS:s.size≤9223372036854775807) (hT:Lib.Utf8Tabs 1 2 w) :
  Calls Tryd.prog 81 #[.string s] w fun e w'=>e=.returned (.bool (fullS s))∧Below w.heap.size w w':=by
 unfold fullS;by_cases h0:s.size=0
 ·have hz:(s.size:Int)=0:=by omega
  rw [qE0,if_pos h0];go_enter Tryd.func81,Tryd.ntmps81
  go_wp2
  go_ret
  exact ⟨rfl,Below.refl _ _⟩
 ·have hz0:(0:Int)<(s.size:Int):=by omega
  have hz0':¬((s.size:Int)=0):=by omega
  obtain ⟨x0,hx0⟩:∃x,s.get! 0=x:=⟨_,rfl⟩;obtain ⟨x1,hx1⟩:∃x,s.get! 1=x:=⟨_,rfl⟩;obtain ⟨x2,hx2⟩:∃x,s.get! 2=x:=⟨_,rfl⟩;have hs0:s[0]'(by omega)=x0:=by rw [←hx0]; exact (Utf8W.get!_of_lt s 0 (by omega)).symm
  have l0:=x0.toNat_lt; have l1:=x1.toNat_lt; have l2:=x2.toNat_lt;have hc0:=hT.1 x0.toNat (by omega);rw [hx0,hx1,hx2];rcases Lib.firstT_cases x0.toNat with hX | hX | hX | hX | hX | hX | hX | hX | hX
  ·rw [qE0,if_neg h0,hX,if_pos (by omega)];rw [hX] at hc0;have hz1:((0:Int)≤(s.size:Int)):=by omega
   clear hT hX;go_enter Tryd.func81,Tryd.ntmps81
   go_wp2
   go_ret
   exact ⟨rfl,Below.refl _ _⟩
  ·rw [qE0,if_neg h0,hX,if_pos (by omega)];rw [hX] at hc0;have hz1:((1:Int)≤(s.size:Int)):=by omega
   clear hT hX;go_enter Tryd.func81,Tryd.ntmps81
   go_wp2
   go_ret
   exact ⟨rfl,Below.refl _ _⟩
  ·rw [hX] at hc0;have ha0:=(hT.2 0 (by omega)).1;have ha1:=(hT.2 0 (by omega)).2;simp only [accLo,accHi,Nat.reduceMul,Nat.reduceAdd,Nat.reduceEqDiff,if_true,if_false,Nat.reduceMod,Nat.reduceDiv] at ha0 ha1;generalize hr:qE0 s.size x0.toNat x1.toNat x2.toNat=r
   rw [qE0,if_neg h0,hX] at hr;simp only [Nat.reduceMod,Nat.reduceDiv,accLo,accHi,Nat.reduceEqDiff,if_true,if_false] at hr;clear hT hX;by_cases hk:2≤s.size
   ·have hz1:((2:Int)≤(s.size:Int)):=by omega
    rw [if_pos (by omega)] at hr;subst hr;go_enter Tryd.func81,Tryd.ntmps81
    go_wp2
    go_ret
    exact ⟨rfl,Below.refl _ _⟩
   ·have Hr:=(HidF.mk hr);clear hr;rcases (show (s.size:Int)=1 by omega) with hz
    all_goals
     go_enter Tryd.func81,Tryd.ntmps81
     go_wp2
     go_quiet (fail)
     go_wp2
     all_goals (go_ret; refine ⟨?_,belowN ((Below.refl _ _).alloc (Nat.le_refl _) _) _⟩; rw [←Hr.out]; (repeat' split) <;> first | rfl | (exfalso; first | omega | (simp only [decide_eq_true_eq,decide_eq_false_iff_not] at *; omega)))
  ·rw [hX] at hc0;have ha0:=(hT.2 1 (by omega)).1;have ha1:=(hT.2 1 (by omega)).2;simp only [accLo,accHi,Nat.reduceMul,Nat.reduceAdd,Nat.reduceEqDiff,if_true,if_false,Nat.reduceMod,Nat.reduceDiv] at ha0 ha1;generalize hr:qE0 s.size x0.toNat x1.toNat x2.toNat=r
   rw [qE0,if_neg h0,hX] at hr;simp only [Nat.reduceMod,Nat.reduceDiv,accLo,accHi,Nat.reduceEqDiff,if_true,if_false] at hr;clear hT hX;by_cases hk:3≤s.size
   ·have hz1:((3:Int)≤(s.size:Int)):=by omega
    rw [if_pos (by omega)] at hr;subst hr;go_enter Tryd.func81,Tryd.ntmps81
    go_wp2
    go_ret
    exact ⟨rfl,Below.refl _ _⟩
   ·have Hr:=(HidF.mk hr);clear hr;rcases (show (s.size:Int)=1∨(s.size:Int)=2 by omega) with hz | hz
    rotate_left 1
    have hs1:s[1]'(by omega)=x1:=by rw [←hx1]; exact (Utf8W.get!_of_lt s 1 (by omega)).symm
    rcases emB (decide ((x1.toNat:Int)<160)) (decide ((191:Int)<(x1.toNat:Int))) with d0 | ⟨d0,d1 | d1⟩
    all_goals
     go_enter Tryd.func81,Tryd.ntmps81
     go_wp2
     go_quiet (fail)
     go_wp2
     all_goals (go_ret; refine ⟨?_,belowN ((Below.refl _ _).alloc (Nat.le_refl _) _) _⟩; rw [←Hr.out]; (repeat' split) <;> first | rfl | (exfalso; first | omega | (simp only [decide_eq_true_eq,decide_eq_false_iff_not] at *; omega)))
  ·rw [hX] at hc0;have ha0:=(hT.2 0 (by omega)).1;have ha1:=(hT.2 0 (by omega)).2;simp only [accLo,accHi,Nat.reduceMul,Nat.reduceAdd,Nat.reduceEqDiff,if_true,if_false,Nat.reduceMod,Nat.reduceDiv] at ha0 ha1;generalize hr:qE0 s.size x0.toNat x1.toNat x2.toNat=r
   rw [qE0,if_neg h0,hX] at hr;simp only [Nat.reduceMod,Nat.reduceDiv,accLo,accHi,Nat.reduceEqDiff,if_true,if_false] at hr;clear hT hX;by_cases hk:3≤s.size
   ·have hz1:((3:Int)≤(s.size:Int)):=by omega
    rw [if_pos (by omega)] at hr;subst hr;go_enter Tryd.func81,Tryd.ntmps81
    go_wp2
    go_ret
    exact ⟨rfl,Below.refl _ _⟩
   ·have Hr:=(HidF.mk hr);clear hr;rcases (show (s.size:Int)=1∨(s.size:Int)=2 by omega) with hz | hz
    rotate_left 1
    have hs1:s[1]'(by omega)=x1:=by rw [←hx1]; exact (Utf8W.get!_of_lt s 1 (by omega)).symm
    rcases emB (decide ((x1.toNat:Int)<128)) (decide ((191:Int)<(x1.toNat:Int))) with d0 | ⟨d0,d1 | d1⟩
    all_goals
     go_enter Tryd.func81,Tryd.ntmps81
     go_wp2
     go_quiet (fail)
     go_wp2
     all_goals (go_ret; refine ⟨?_,belowN ((Below.refl _ _).alloc (Nat.le_refl _) _) _⟩; rw [←Hr.out]; (repeat' split) <;> first | rfl | (exfalso; first | omega | (simp only [decide_eq_true_eq,decide_eq_false_iff_not] at *; omega)))
  ·rw [hX] at hc0;have ha0:=(hT.2 2 (by omega)).1;have ha1:=(hT.2 2 (by omega)).2;simp only [accLo,accHi,Nat.reduceMul,Nat.reduceAdd,Nat.reduceEqDiff,if_true,if_false,Nat.reduceMod,Nat.reduceDiv] at ha0 ha1;generalize hr:qE0 s.size x0.toNat x1.toNat x2.toNat=r
   rw [qE0,if_neg h0,hX] at hr;simp only [Nat.reduceMod,Nat.reduceDiv,accLo,accHi,Nat.reduceEqDiff,if_true,if_false] at hr;clear hT hX;by_cases hk:3≤s.size
   ·have hz1:((3:Int)≤(s.size:Int)):=by omega
    rw [if_pos (by omega)] at hr;subst hr;go_enter Tryd.func81,Tryd.ntmps81
    go_wp2
    go_ret
    exact ⟨rfl,Below.refl _ _⟩
   ·have Hr:=(HidF.mk hr);clear hr;rcases (show (s.size:Int)=1∨(s.size:Int)=2 by omega) with hz | hz
    rotate_left 1
    have hs1:s[1]'(by omega)=x1:=by rw [←hx1]; exact (Utf8W.get!_of_lt s 1 (by omega)).symm
    rcases emB (decide ((x1.toNat:Int)<128)) (decide ((159:Int)<(x1.toNat:Int))) with d0 | ⟨d0,d1 | d1⟩
    all_goals
     go_enter Tryd.func81,Tryd.ntmps81
     go_wp2
     go_quiet (fail)
     go_wp2
     all_goals (go_ret; refine ⟨?_,belowN ((Below.refl _ _).alloc (Nat.le_refl _) _) _⟩; rw [←Hr.out]; (repeat' split) <;> first | rfl | (exfalso; first | omega | (simp only [decide_eq_true_eq,decide_eq_false_iff_not] at *; omega)))
  ·rw [hX] at hc0;have ha0:=(hT.2 3 (by omega)).1;have ha1:=(hT.2 3 (by omega)).2;simp only [accLo,accHi,Nat.reduceMul,Nat.reduceAdd,Nat.reduceEqDiff,if_true,if_false,Nat.reduceMod,Nat.reduceDiv] at ha0 ha1;generalize hr:qE0 s.size x0.toNat x1.toNat x2.toNat=r
   rw [qE0,if_neg h0,hX] at hr;simp only [Nat.reduceMod,Nat.reduceDiv,accLo,accHi,Nat.reduceEqDiff,if_true,if_false] at hr;clear hT hX;by_cases hk:4≤s.size
   ·have hz1:((4:Int)≤(s.size:Int)):=by omega
    rw [if_pos (by omega)] at hr;subst hr;go_enter Tryd.func81,Tryd.ntmps81
    go_wp2
    go_ret
    exact ⟨rfl,Below.refl _ _⟩
   ·have Hr:=(HidF.mk hr);clear hr;rcases (show (s.size:Int)=1∨(s.size:Int)=2∨(s.size:Int)=3 by omega) with hz | hz | hz
    rotate_left 1
    have hs1:s[1]'(by omega)=x1:=by rw [←hx1]; exact (Utf8W.get!_of_lt s 1 (by omega)).symm
    rcases emB (decide ((x1.toNat:Int)<144)) (decide ((191:Int)<(x1.toNat:Int))) with d0 | ⟨d0,d1 | d1⟩
    rotate_left 3
    have hs1:s[1]'(by omega)=x1:=by rw [←hx1]; exact (Utf8W.get!_of_lt s 1 (by omega)).symm
    have hs2:s[2]'(by omega)=x2:=by rw [←hx2]; exact (Utf8W.get!_of_lt s 2 (by omega)).symm
    rcases emD (decide ((x1.toNat:Int)<144)) (decide ((191:Int)<(x1.toNat:Int))) (decide ((x2.toNat:Int)<128)) (decide ((191:Int)<(x2.toNat:Int))) with d0 | ⟨d0,d1 | ⟨d1,d2 | ⟨d2,d3 | d3⟩⟩⟩
    all_goals
     go_enter Tryd.func81,Tryd.ntmps81
     go_wp2
     go_quiet (fail)
     go_wp2
     all_goals (go_ret; refine ⟨?_,belowN ((Below.refl _ _).alloc (Nat.le_refl _) _) _⟩; rw [←Hr.out]; (repeat' split) <;> first | rfl | (exfalso; first | omega | (simp only [decide_eq_true_eq,decide_eq_false_iff_not] at *; omega)))
  ·rw [hX] at hc0;have ha0:=(hT.2 0 (by omega)).1;have ha1:=(hT.2 0 (by omega)).2;simp only [accLo,accHi,Nat.reduceMul,Nat.reduceAdd,Nat.reduceEqDiff,if_true,if_false,Nat.reduceMod,Nat.reduceDiv] at ha0 ha1;generalize hr:qE0 s.size x0.toNat x1.toNat x2.toNat=r
   rw [qE0,if_neg h0,hX] at hr;simp only [Nat.reduceMod,Nat.reduceDiv,accLo,accHi,Nat.reduceEqDiff,if_true,if_false] at hr;clear hT hX;by_cases hk:4≤s.size
   ·have hz1:((4:Int)≤(s.size:Int)):=by omega
    rw [if_pos (by omega)] at hr;subst hr;go_enter Tryd.func81,Tryd.ntmps81
    go_wp2
    go_ret
    exact ⟨rfl,Below.refl _ _⟩
   ·have Hr:=(HidF.mk hr);clear hr;rcases (show (s.size:Int)=1∨(s.size:Int)=2∨(s.size:Int)=3 by omega) with hz | hz | hz
    rotate_left 1
    have hs1:s[1]'(by omega)=x1:=by rw [←hx1]; exact (Utf8W.get!_of_lt s 1 (by omega)).symm
    rcases emB (decide ((x1.toNat:Int)<128)) (decide ((191:Int)<(x1.toNat:Int))) with d0 | ⟨d0,d1 | d1⟩
    rotate_left 3
    have hs1:s[1]'(by omega)=x1:=by rw [←hx1]; exact (Utf8W.get!_of_lt s 1 (by omega)).symm
    have hs2:s[2]'(by omega)=x2:=by rw [←hx2]; exact (Utf8W.get!_of_lt s 2 (by omega)).symm
    rcases emD (decide ((x1.toNat:Int)<128)) (decide ((191:Int)<(x1.toNat:Int))) (decide ((x2.toNat:Int)<128)) (decide ((191:Int)<(x2.toNat:Int))) with d0 | ⟨d0,d1 | ⟨d1,d2 | ⟨d2,d3 | d3⟩⟩⟩
    all_goals
     go_enter Tryd.func81,Tryd.ntmps81
     go_wp2
     go_quiet (fail)
     go_wp2
     all_goals (go_ret; refine ⟨?_,belowN ((Below.refl _ _).alloc (Nat.le_refl _) _) _⟩; rw [←Hr.out]; (repeat' split) <;> first | rfl | (exfalso; first | omega | (simp only [decide_eq_true_eq,decide_eq_false_iff_not] at *; omega)))
  ·rw [hX] at hc0;have ha0:=(hT.2 4 (by omega)).1;have ha1:=(hT.2 4 (by omega)).2;simp only [accLo,accHi,Nat.reduceMul,Nat.reduceAdd,Nat.reduceEqDiff,if_true,if_false,Nat.reduceMod,Nat.reduceDiv] at ha0 ha1;generalize hr:qE0 s.size x0.toNat x1.toNat x2.toNat=r
   rw [qE0,if_neg h0,hX] at hr;simp only [Nat.reduceMod,Nat.reduceDiv,accLo,accHi,Nat.reduceEqDiff,if_true,if_false] at hr;clear hT hX;by_cases hk:4≤s.size
   ·have hz1:((4:Int)≤(s.size:Int)):=by omega
    rw [if_pos (by omega)] at hr;subst hr;go_enter Tryd.func81,Tryd.ntmps81
    go_wp2
    go_ret
    exact ⟨rfl,Below.refl _ _⟩
   ·have Hr:=(HidF.mk hr);clear hr;rcases (show (s.size:Int)=1∨(s.size:Int)=2∨(s.size:Int)=3 by omega) with hz | hz | hz
    rotate_left 1
    have hs1:s[1]'(by omega)=x1:=by rw [←hx1]; exact (Utf8W.get!_of_lt s 1 (by omega)).symm
    rcases emB (decide ((x1.toNat:Int)<128)) (decide ((143:Int)<(x1.toNat:Int))) with d0 | ⟨d0,d1 | d1⟩
    rotate_left 3
    have hs1:s[1]'(by omega)=x1:=by rw [←hx1]; exact (Utf8W.get!_of_lt s 1 (by omega)).symm
    have hs2:s[2]'(by omega)=x2:=by rw [←hx2]; exact (Utf8W.get!_of_lt s 2 (by omega)).symm
    rcases emD (decide ((x1.toNat:Int)<128)) (decide ((143:Int)<(x1.toNat:Int))) (decide ((x2.toNat:Int)<128)) (decide ((191:Int)<(x2.toNat:Int))) with d0 | ⟨d0,d1 | ⟨d1,d2 | ⟨d2,d3 | d3⟩⟩⟩
    all_goals
     go_enter Tryd.func81,Tryd.ntmps81
     go_wp2
     go_quiet (fail)
     go_wp2
     all_goals (go_ret; refine ⟨?_,belowN ((Below.refl _ _).alloc (Nat.le_refl _) _) _⟩; rw [←Hr.out]; (repeat' split) <;> first | rfl | (exfalso; first | omega | (simp only [decide_eq_true_eq,decide_eq_false_iff_not] at *; omega)))
end Go.Proofs.YtnifdcmeffnpaaaDoor
namespace Go.Proofs
open Go.Shelf
shelf_lay Lays.n196 Nm 196 at Tryd as Tryd.laysValid
shelf_lay Lays.n197 Nm 197 at Tryd as Tryd.laysDecode
end Go.Proofs
namespace Go.Proofs.YtnifdcmeffnpaaaDoor
open Go.Eng
set_option linter.unusedVariables false
set_option linter.unusedSimpArgs false
theorem stays_below {w w':World} (h:Go.RowKit.Below w.heap.size w w'):Stays (fun _=>False) w w':=⟨h.os,h.output,h.size,fun k hk _=>h.block k hk⟩
theorem given_cont {α β γ:Type} {A:Dec α (List SV)} {B:Dec β (List SB)} (f:α→Option γ) (v:γ→SV) (args:List SV) (hp:List SB) (R:Type) (k:SV→List SB→Option R) :
  ((Dec.d A args).bind fun x=>(Dec.d B hp).bind fun y=>(f x).bind fun r=>k (v r) [])=(((Dec.d A args).bind fun x=>(Dec.d B hp).bind fun y=>(f x).bind fun r=>some (v r,([]:List SB))):Option (SV × List SB)).bind fun z=>k z.1 z.2:=by
 cases Dec.d A args with
 | none=>rfl
 | some x =>
  cases Dec.d B hp with
  | none=>rfl
  | some y=>simp only [obS,Option.bind_assoc]
def utf8_da:=(qAb (dVC (dCO dS)) dNil)
def utf8_db:=(dNil:Dec Unit (List SB))
noncomputable def qA7 (s:BA):Option (Int × Int):=some (((Lib.decodeGo s).1:Int),((Lib.decodeGo s).2:Int))
noncomputable def qCq:CS:=fun args hp R k=>(Dec.d utf8_da args).bind fun x=>(Dec.d utf8_db hp).bind fun y=>(qA7 x.1).bind fun r=>k (.tup [.o (.val (.int .i32 r.1)),.o (.val (.int .i64 r.2))]) []
theorem qEy:qAl Tryd.prog 80 qCq:=by
 refine ⟨fun args hp R k=>given_cont (A:=utf8_da) (B:=utf8_db) (fun x=>qA7 x.1) (fun r=>.tup [.o (.val (.int .i32 r.1)),.o (.val (.int .i64 r.2))]) args hp R k,fun args hp v hp' hC hlt X w ρ hhp=>?_⟩;obtain ⟨x,h1,h2⟩:=Option.bind_eq_some_iff.1 hC;obtain ⟨y,h3,h4⟩:=Option.bind_eq_some_iff.1 h2;obtain ⟨r,h5,h6⟩:=Option.bind_eq_some_iff.1 h4;rw [Dec.ok _ _ _ h1];have hhp':=Dec.ok _ _ _ h3;obtain ⟨s,u⟩:=x;simp only [qA7,snJ,Prod.mk.injEq] at h6 h5;obtain ⟨rfl,rfl⟩:=h6;subst h5;rw [hhp'] at hhp ⊢;refine (Any.utf8_DecodeRuneInString Tryd.laysDecode s w hhp.tab.1).mono ?_;rintro e w' ⟨rfl,hb⟩
 obtain ⟨g1,g2⟩:=hhp.past ⟨rfl,rfl,Nat.le_refl _,fun k _ _=>rfl⟩ (stays_below hb);exact ⟨ρ,fun _ _=>rfl,Nat.le_refl _,rfl,fun c hc=>by simp only [List.mem_cons,List.not_mem_nil,or_false] at hc; rcases hc with rfl | rfl <;> trivial,g1,g2⟩
noncomputable def qCm:CQ:=qC3 [] qCq
theorem qE1:qAe Tryd.prog 80 qCm:=qA2 qEy
noncomputable def qBk (s:BA):Option Bool:=gd (s.size≤9223372036854775807) (some (fullS s))
noncomputable def qC9:CS:=fun args hp R k=>(Dec.d utf8_da args).bind fun x=>(Dec.d utf8_db hp).bind fun y=>(qBk x.1).bind fun r=>k (.c (.o (.val (.bool r)))) []
theorem qFj:qAl Tryd.prog 81 qC9:=by
 refine ⟨fun args hp R k=>given_cont (A:=utf8_da) (B:=utf8_db) (fun x=>qBk x.1) (fun r=>.c (.o (.val (.bool r)))) args hp R k,fun args hp v hp' hC hlt X w ρ hhp=>?_⟩;obtain ⟨x,h1,h2⟩:=Option.bind_eq_some_iff.1 hC;obtain ⟨y,h3,h4⟩:=Option.bind_eq_some_iff.1 h2;obtain ⟨r,h5,h6⟩:=Option.bind_eq_some_iff.1 h4;obtain ⟨hi,h7⟩:=gd_some.1 h5;rw [Dec.ok _ _ _ h1];have hhp':=Dec.ok _ _ _ h3;obtain ⟨s,u⟩:=x;simp only [snJ,Prod.mk.injEq] at h6 h7;obtain ⟨rfl,rfl⟩:=h6;simp only at hi;subst h7;rw [hhp'] at hhp ⊢;refine (full_run s w hi hhp.tab.1).mono ?_;rintro e w' ⟨rfl,hb⟩
 obtain ⟨g1,g2⟩:=hhp.past ⟨rfl,rfl,Nat.le_refl _,fun k _ _=>rfl⟩ (stays_below hb);exact ⟨ρ,fun _ _=>rfl,Nat.le_refl _,rfl,trivial,g1,g2⟩
noncomputable def qDa:CQ:=qC3 [] qC9
theorem qFt:qAe Tryd.prog 81 qDa:=qA2 qFj
end Go.Proofs.YtnifdcmeffnpaaaDoor
namespace Go.Proofs.YtnifdcmeffnpaaaDoor
open Go.Eng
set_option linter.unusedVariables false
set_option linter.unusedSimpArgs false
set_option maxRecDepth 100000
theorem nd_get {v:List Eng.Node} {a:Nat} {n:Eng.Node} (h:v[a]?=some n):v.getD a (ET.dft .node)=n:=by
 rw [List.getD_eq_getElem?_getD,h]; rfl
structure OkN (n:Eng.Node):Prop where
 key:n.key.size≤3000000
 text:n.text.size≤3000000
 kids:qAj n.kids
def by8 (t:BA) (i:Nat):Nat:=(t.get! i).toNat
theorem by8_lt (t:BA) (i:Nat):by8 t i<256:=UInt8.toNat_lt _
theorem by8_in {t:BA} {i:Nat} (h:i<t.size):bAt t (i:Int)=(by8 t i:Int):=by
 rw [bAt_in h];unfold by8;congr 2
 cases t with
 | mk d=>exact (getElem!_pos d i h).symm
def contN (n:Nat) (b:Nat→Nat):Nat→Nat→Nat→Nat→Int
 | 0,_,_,_=>0
 | m+1,i,lo,hi=>if n≤i then 31 else if b i<lo∨hi<b i then 32 else contN n b m (i+1) 128 191
theorem contN_cases (n:Nat) (b:Nat→Nat):∀(m i lo hi:Nat),contN n b m i lo hi=0∨contN n b m i lo hi=31∨contN n b m i lo hi=32
 | 0,_,_,_=>.inl rfl
 | m+1,i,lo,hi=>by
  unfold contN;split
  ·exact .inr (.inl rfl)
  ·split
   ·exact .inr (.inr rfl)
   ·exact contN_cases n b m _ _ _
theorem firstT_low:∀c:Fin 256,128≤c.val→Lib.firstT c.val≠240:=by decide +kernel
def seqK (t:BA) (a:Nat):Int :=
 if Lib.firstT (by8 t a)=241 then 32 else contN (t.size - a) (fun k=>by8 t (a+k)) (Lib.firstT (by8 t a) % 8 - 1) 1 (Lib.accLo (Lib.firstT (by8 t a) / 16)) (Lib.accHi (Lib.firstT (by8 t a) / 16))
def seqW (t:BA) (a:Nat):Nat:=Lib.firstT (by8 t a) % 8
theorem seqK_cases (t:BA) (a:Nat):seqK t a=0∨seqK t a=31∨seqK t a=32:=by
 unfold seqK;split
 ·exact .inr (.inr rfl)
 ·exact contN_cases _ _ _ _ _ _
theorem firstT_three {b:Nat} (h:128≤b) (hb:b<256) (h2:Lib.firstT b≠241):2≤Lib.firstT b % 8∧Lib.firstT b % 8≤4:=by
 have:=firstT_low ⟨b,hb⟩ h;rcases Lib.firstT_cases b with h | h | h | h | h | h | h | h | h <;> simp only [h] at * <;> omega
theorem contN_in {n:Nat} {b:Nat→Nat}:∀ {m i lo hi:Nat},contN n b m i lo hi=0→m=0∨i+m≤n
 | 0,_,_,_,_=>.inl rfl
 | m+1,i,lo,hi,h=>by
  unfold contN at h;split at h
  ·cases h
  ·split at h
   ·cases h
   ·rcases contN_in h with h | h <;> omega
theorem seqW_in {t:BA} {a:Nat} (ha:a<t.size) (h:128≤by8 t a) (h0:seqK t a=0):a+seqW t a≤t.size∧2≤seqW t a∧seqW t a≤4:=by
 unfold seqK at h0;unfold seqW;split at h0
 ·cases h0
 ·rename_i h1;have:=firstT_three h (by8_lt t a) h1;rcases contN_in h0 with h2 | h2 <;> omega
set_option maxRecDepth 100000 in
set_option maxHeartbeats 4000000 in
theorem seq_dec {t:BA} {a:Nat} (ha:a<t.size) (h:128≤by8 t a) :
  (seqK t a=0→(Utf8.decode t a).2=seqW t a) ∧
  (seqK t a≠0→Utf8.decode t a=(65533,1)∧(qE0 (t.size - a) (by8 t a) (by8 t (a+1)) (by8 t (a+2))=!decide (seqK t a=31))):=by
 have l0:=by8_lt t a;have l1:=by8_lt t (a+1);have l2:=by8_lt t (a+2);have l3:=by8_lt t (a+3);have hd:Utf8.decode t a=Lib.decodeN (t.size - a) (by8 t a) (by8 t (a+1)) (by8 t (a+2)) (by8 t (a+3)):=Lib.decode_at t a;have hf:=firstT_low ⟨by8 t a,l0⟩ h;simp only at hf;rw [hd];unfold seqK seqW;by_cases h1:Lib.firstT (by8 t a)=241
 ·rw [if_pos h1];refine ⟨fun h=>(by cases h),fun _=>⟨Lib.bad_eq _ _ _ _ _ l0 h1,?_⟩⟩;unfold qE0;rw [if_neg (by omega),h1,if_pos (by omega)];rfl
 ·rw [if_neg h1,←Lib.slow_eq _ _ _ _ _ (by omega) l1 l2 l3 (by rcases Lib.firstT_cases (by8 t a) with h | h | h | h | h | h | h | h | h <;> omega)]
  have hn:1≤t.size - a:=by omega
  generalize t.size - a=n at *
  unfold qE0;generalize hb1:by8 t (a+1)=b1 at *
  generalize hb2:by8 t (a+2)=b2 at *
  generalize hb3:by8 t (a+3)=b3 at *
  generalize by8 t a=b0 at *
  rcases Lib.firstT_cases b0 with g | g | g | g | g | g | g | g | g <;> first | exact (hf g).elim | exact (h1 g).elim | rw [g]
  all_goals
   simp only [Nat.reduceMod,Nat.reduceDiv,Nat.reduceSub,contN,Lib.slowN,Lib.accLo,Lib.accHi,Nat.reduceEqDiff,Nat.reduceAdd,Nat.reduceLeDiff,if_true,if_false,hb1,hb2,hb3];repeat' split
   all_goals first | (exfalso; omega) | (refine ⟨fun h=>?_,fun h=>⟨?_,?_⟩⟩ <;> first | rfl | (exfalso; omega) | (cases h) | (exact (h rfl).elim))
end Go.Proofs.YtnifdcmeffnpaaaDoor
