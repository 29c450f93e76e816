/-
  Functions as the engine reads them (printed by gen.py).
-/
import Derived.Test.YtdcoiccdbgcpaaaDoorEngO
import Derived.Test.YtdcoiccdbgcpaaaDoorProg
import Derived.Test.YtdcoiccdbgcpaaaDoorUtf8
import Derived.Test.YtdcoiccdbgcpaaaDoorGC
import Derived.Test.YtdcoiccdbgcpaaaDoorPUtf
import Derived.Test.YtdcoiccdbgcpaaaDoorPShape
import Derived.Test.YtdcoiccdbgcpaaaDoorJP
import Derived.Test.YtdcoiccdbgcpaaaDoorPLexQ
namespace Go.Proofs.YtdcoiccdbgcpaaaDoor
open Go.Eng
set_option linter.unusedVariables false
set_option linter.unusedSimpArgs false
set_option maxRecDepth 100000
noncomputable section
structure qHc where
 addr:Bool
 buf:(List Int)
def zby_q:IQ:=(.join [(2000000,some 0,.u8,0)] [] (.seq (rg 6 (rF 2 t0 0++[oP 6 (.ext (.ptrEq false) [t5,(.v (.pointer none))])])) (.cond t6 (rg 0 ([oM 7 t0,oM 8 t0,oP 9 (.ext .toUns [t8]),oP 10 (.ext .noEsc [t9]),oP 11 (.ext (.fromUns 107 2) [t10])]++rS 12 t7 0 t11)) (.seq (rg 19 (rF 14 t0 0++[oM 18 t0,oP 19 (.ext (.ptrEq true) [t17,t18])])) (.cond t19 .bad .skip)))))
theorem zby_chk:chk Tryd.prog 146 []=some (zby_q.erase,[],20):=by kernel_rfl
def zby_s (b:qHc):Option qHc :=
 bif (!b.addr) then (
  some (⟨true,b.buf⟩:qHc))
 else (
  bif (!b.addr) then (
   none)
  else (
   some b))
def zby_G:Nat→Option CQ:=tblQ []
theorem zby_Gok:∀f C,zby_G f=some C→qAe Tryd.prog f C:=fun f C h=>by cases h
def zby_L:Nat→SubQ:=tblL []
theorem zby_subs:qAq zby_L zby_G 2 2 20 zby_q:=qAm (show qAr zby_L zby_G 2 2 20 [] from tV)
def zby_da:=(qAb (dVC (dCO (dH 0 0))) dNil)
def zDJW2:=(dCells 107 (qAb (dP 0 0) (qAb (dO 1) dNil)))
def zby_db:=(qAb zDJW2 (qAb (qBn .u8) dNil))
def zby_c:CS:=mkC zby_da zby_db (fun x y=>zby_s (⟨y.1.1,y.2.1⟩:qHc)) (fun x y r=>.tup []) fun x y r=>[.cells 107 [.opt r.addr 0 0,.own 1],.view .u8 y.2.1]
theorem zby_val:qAn Tryd.prog 146 zby_c:=qAp zby_chk 2 zby_Gok 2 (fun x=>Nat.le_of_ble_eq_true rfl) (fun y=>rfl) zby_subs fun x y=>by
 simp only [zby_s,-eq_self,qAc,qAg,obA,obS,slL,slR,qAd];kernel_rfl
def zby_w:CQ:=qB4 [(0,some 0,none),(0,some 1,some (.u8,5))] (qC3 [true,false] zby_c)
theorem zby_ok:qAe Tryd.prog 146 zby_w:=qAv zby_val
def zbx_q:IQ:=(.seq (rg 5 [oP 4 (.mv (vI 0)),oP 5 (.mv (.v (.nilIface)))]) (.seq (rg 7 [oM 6 t0,oP 7 (.call 146 [t6])]) (.seq (rg 0 ([oM 8 t0]++rF 9 t0 1++[oM 13 t1,oP 14 (.ext (.appStr 5) [t12,t13])]++rS 15 t8 1 t14)) (.seq (rg 5 [oM 17 t1,oP 18 (.lenS t17),oM 4 t18,oP 5 (.mv (.v (.nilIface)))]) (.canon [(2000000,some 0,.u8,0)] [4,5] .ret)))))
theorem zbx_chk:chk Tryd.prog 113 []=some (zbx_q.erase,[.tmp 4,.tmp 5],19):=by kernel_rfl
def zbx_s (b:qHc) (s:BA):Option (qHc × Int × Unit) :=
 (zby_s b).bind fun r3 =>
 gd (b.buf.length+s.size≤140737488355328) <|
 some ((⟨r3.addr,(b.buf++(qAi s))⟩:qHc),(s.size:Int),())
def zbx_G:Nat→Option CQ:=tblQ [(146,zby_w)]
theorem zbx_Gok:∀f C,zbx_G f=some C→qAe Tryd.prog f C:=qAl ⟨zby_ok,tV⟩
def zbx_L:Nat→SubQ:=tblL []
theorem zbx_subs:qAq zbx_L zbx_G 2 6 19 zbx_q:=qAm (show qAr zbx_L zbx_G 2 6 19 [] from tV)
def zbx_da:=(qAb (dVC (dCO (dH 0 0))) (qAb (dVC (dCO dS)) dNil))
def zbx_db:=(qAb zDJW2 (qAb (dRow .u8 5) dNil))
def zbx_c:CS:=mkC zbx_da zbx_db (fun x y=>zbx_s (⟨y.1.1,y.2.1⟩:qHc) x.2.1) (fun x y r=>.tup [.o (.vI r.2.1),.o (.val (.nilIface))]) fun x y r=>[.cells 107 [.opt r.1.addr 0 0,.own 2],.dead,.row .u8 5 r.1.buf]
theorem zbx_val:qAn Tryd.prog 113 zbx_c:=qAp zbx_chk 6 zbx_Gok 2 (fun x=>Nat.le_of_ble_eq_true rfl) (fun y=>rfl) zbx_subs fun x y=>by
 simp only [zbx_s,-eq_self,qAc,qAg,obA,obS,slL,slR,qAd];kernel_rfl
def zbx_w:CQ:=qB4 [(0,some 0,none),(0,some 1,some (.u8,5))] (qC3 [true,true] zbx_c)
theorem zbx_ok:qAe Tryd.prog 113 zbx_w:=qAv zbx_val
def zbw_q:IQ:=(.seq (rg 4 [oP 4 (.mv (.v (.nilIface)))]) (.seq (rg 6 [oM 5 t0,oP 6 (.call 146 [t5])]) (.seq (rg 0 ([oM 7 t0]++rF 8 t0 1++[oM 12 t1,oP 13 (.bslice 5 1 1 [.int .u8 0] [(0,t12)]),oP 14 (.append 5 1 1 [.int .u8 0] t11 t13)]++rS 15 t7 1 t14)) (.seq (rg 4 [oP 4 (.mv (.v (.nilIface)))]) (.canon [(2000000,some 0,.u8,0)] [4] .ret)))))
theorem zbw_chk:chk Tryd.prog 115 []=some (zbw_q.erase,[.tmp 4],17):=by kernel_rfl
def zbw_s (b:qHc) (c:Int):Option (qHc × Unit) :=
 (zby_s b).bind fun r3 =>
 gd (b.buf.length+([c]:List Int).length≤9223372036854775807∧(b.buf.length+([c]:List Int).length)*1≤140737488355328) <|
 some ((⟨r3.addr,(b.buf++[c])⟩:qHc),())
def zbw_G:Nat→Option CQ:=tblQ [(146,zby_w)]
theorem zbw_Gok:∀f C,zbw_G f=some C→qAe Tryd.prog f C:=qAl ⟨zby_ok,tV⟩
def zbw_L:Nat→SubQ:=tblL []
theorem zbw_subs:qAq zbw_L zbw_G 2 5 17 zbw_q:=qAm (show qAr zbw_L zbw_G 2 5 17 [] from tV)
def zDJW4:=(qAb (dVC (dCO (dI .u8))) dNil)
def zbw_da:=(qAb (dVC (dCO (dH 0 0))) zDJW4)
def zbw_db:=(qAb zDJW2 (qAb (dRow .u8 5) dNil))
def zbw_c:CS:=mkC zbw_da zbw_db (fun x y=>zbw_s (⟨y.1.1,y.2.1⟩:qHc) x.2.1) (fun x y r=>.c (.o (.val (.nilIface)))) fun x y r=>[.cells 107 [.opt r.1.addr 0 0,.own 2],.dead,.row .u8 5 r.1.buf]
theorem zbw_val:qAn Tryd.prog 115 zbw_c:=qAp zbw_chk 5 zbw_Gok 2 (fun x=>Nat.le_of_ble_eq_true rfl) (fun y=>rfl) zbw_subs fun x y=>by
 simp only [zbw_s,-eq_self,qAc,qAg,obA,obS,slL,slR,qAd];kernel_rfl
def zbw_w:CQ:=qB4 [(0,some 0,none),(0,some 1,some (.u8,5))] (qC3 [true,true] zbw_c)
theorem zbw_ok:qAe Tryd.prog 115 zbw_w:=qAv zbw_val
def zag_q:IQ:=(.seq (rg 4 [oP 4 (.mv (vI 0))]) (.seq (rg 4 [oM 5 t0,oM 6 t1,oP 7 (.ext .idxByte [t5,t6]),oM 4 t7]) (.cn [4] .ret)))
theorem zag_chk:chk Tryd.prog 169 []=some (zag_q.erase,[.tmp 4],8):=by kernel_rfl
def zag_s (s:BA) (c:Int):Option Int :=
 some (Lib.indexByte s.data.toList (Int.toNat c).toUInt8)
def zag_G:Nat→Option CQ:=tblQ []
theorem zag_Gok:∀f C,zag_G f=some C→qAe Tryd.prog f C:=fun f C h=>by cases h
def zag_L:Nat→SubQ:=tblL []
theorem zag_subs:qAq zag_L zag_G 0 5 8 zag_q:=qAm (show qAr zag_L zag_G 0 5 8 [] from tV)
def zag_da:=(qAb (dVC (dCO dS)) zDJW4)
def zag_db:=(dNil:Dec Unit (List SB))
def zag_c:CS:=mkC zag_da zag_db (fun x y=>zag_s x.1 x.2.1) (fun x y r=>.c (.o (.vI r))) fun x y r=>[]
theorem zag_val:qAn Tryd.prog 169 zag_c:=qAp zag_chk 5 zag_Gok 0 (fun x=>Nat.le_of_ble_eq_true rfl) (fun y=>rfl) zag_subs fun x y=>by
 simp only [zag_s,-eq_self,qAc,qAg,obA,obS,slL,slR,qAd];kernel_rfl
def zag_w:CQ:=qDf [] zag_c
theorem zag_ok:qAe Tryd.prog 169 zag_w:=qAx zag_val
def zca_q:IQ:=(.seq (rg 4 [oP 4 (.mv (vI 0))]) (.seq (rg 4 [oM 5 t0,oM 6 t1,oP 7 (.call 169 [t5,t6]),oM 4 t7]) (.cn [4] .ret)))
theorem zca_chk:chk Tryd.prog 147 []=some (zca_q.erase,[.tmp 4],8):=by kernel_rfl
def zca_s (s:BA) (c:Int):Option Int :=
 (zag_s s c).bind fun r1 =>
 some r1
def zca_G:Nat→Option CQ:=tblQ [(169,zag_w)]
theorem zca_Gok:∀f C,zca_G f=some C→qAe Tryd.prog f C:=qAl ⟨zag_ok,tV⟩
def zca_L:Nat→SubQ:=tblL []
theorem zca_subs:qAq zca_L zca_G 0 5 8 zca_q:=qAm (show qAr zca_L zca_G 0 5 8 [] from tV)
def zca_da:=(qAb (dVC (dCO dS)) zDJW4)
def zca_db:=(dNil:Dec Unit (List SB))
def zca_c:CS:=mkC zca_da zca_db (fun x y=>zca_s x.1 x.2.1) (fun x y r=>.c (.o (.vI r))) fun x y r=>[]
theorem zca_val:qAn Tryd.prog 147 zca_c:=qAp zca_chk 5 zca_Gok 0 (fun x=>Nat.le_of_ble_eq_true rfl) (fun y=>rfl) zca_subs fun x y=>by
 simp only [zca_s,-eq_self,qAc,qAg,obA,obS,slL,slR,qAd];kernel_rfl
def zca_w:CQ:=qDf [] zca_c
theorem zca_ok:qAe Tryd.prog 147 zca_w:=qAx zca_val
def zap_b0:IQ:=(.loop [0,1,4,11,12] (.seq (rg 13 [oP 13 (.bi .lss t12 t11)]) (.seq (.cond t13 .skip (.cn [0,1,4] (.exit 0))) (.seq (.block 1 (.seq (rg 5 [oM 14 t12,oM 5 t14]) (.seq (rg 6 [oM 15 t1,oM 16 t5,oP 17 (.index t15 t16),oM 6 t17]) (.seq (.seq (rg 27 [oM 18 t6,oP 19 (.bi .geq t18 (vC 32)),oM 20 t19,oF 21 (.mv t6) 20,oF 22 (.bi .neq t21 (vC 34)) 20,oP 23 (.pick t20 t22 vF),oM 24 t23,oF 25 (.mv t6) 24,oF 26 (.bi .neq t25 (vC 92)) 24,oP 27 (.pick t24 t26 vF)]) (.cond t27 (.exit 1) .skip)) (.seq (rg 33 [oM 28 t0,oM 29 t1,oM 30 t4,oM 31 t5,oP 32 (.sub none t29 (some t30) (some t31)),oP 33 (.call 113 [t28,t32])]) (.seq (rg 4 [oM 34 t5,oP 35 (.bi .add t34 (vI 1)),oM 4 t35]) (.seq (rg 7 [oM 36 t6,oP 37 (.call 147 [(.v (.string ⟨#[8,12,10,13,9,34,92]⟩)),t36]),oM 7 t37]) (.seq (rg 39 [oM 38 t7,oP 39 (.bi .geq t38 (vI 0))]) (.cond t39 (rg 46 [oM 40 t0,oM 41 t7,oM 42 t7,oP 43 (.bi .add t42 (vI 1)),oP 44 (.sub none (.v (.string ⟨#[98,102,110,114,116,34,92]⟩)) (some t41) (some t43)),oP 45 (.bi .add (.v (.string ⟨#[92]⟩)) t44),oP 46 (.call 113 [t40,t45])]) (.reg 62 (some [0,1,2,3,4,5,6,7,8,9,10,11,12,13,14,15]) [oM 47 t0,oM 48 t6,oP 49 (.bi .shr t48 (.v (.int .u64 4))),oM 50 t6,oP 51 (.bi .shr t50 (.v (.int .u64 4))),oP 52 (.bi .add t51 (vC 1)),oP 53 (.sub none (.v (.string ⟨#[48,49,50,51,52,53,54,55,56,57,97,98,99,100,101,102]⟩)) (some t49) (some t52)),oP 54 (.bi .add (.v (.string ⟨#[92,117,48,48]⟩)) t53),oM 55 t6,oP 56 (.bi .and t55 (vC 15)),oM 57 t6,oP 58 (.bi .and t57 (vC 15)),oP 59 (.bi .add t58 (vC 1)),oP 60 (.sub none (.v (.string ⟨#[48,49,50,51,52,53,54,55,56,57,97,98,99,100,101,102]⟩)) (some t56) (some t59)),oP 61 (.bi .add t54 t60),oP 62 (.callL 113 [t47,t61])])))))))))) (rg 12 [oP 63 (.bi .add t12 (vI 1)),oM 12 t63])))))
def zap_q:IQ:=(.join [(2000000,some 0,.u8,0)] [] (.seq (rg 9 [oM 8 t0,oP 9 (.call 115 [t8,(vC 34)])]) (.seq (rg 4 [oP 4 (.mv (vI 0))]) (.seq (.seq (rg 12 [oM 10 t1,oP 11 (.lenS t10),oP 12 (.mv (vI 0))]) (.block 0 (.cn [0,1,4,11,12] (.sub 0 zap_b0)))) (rg 69 [oM 64 t0,oM 65 t1,oM 66 t4,oP 67 (.sub none t65 (some t66) none),oP 68 (.bi .add t67 (.v (.string ⟨#[34]⟩))),oP 69 (.call 113 [t64,t68])])))))
theorem zap_chk:chk Tryd.prog 114 [62]=some (zap_q.erase,[],70):=by kernel_rfl
def qEc (s:BA) (from_ x11_ x12_:Int) (b_addr:Bool) (b_buf:List Int):Option ((Int × Int × Bool × (List Int)) ⊕ (Int × Bool × (List Int))) :=
 bif decide (x12_<x11_) then (
  gd (0≤x12_∧x12_<s.size) <|
  bif (((decide ((32:Int)≤(bAt s x12_))) && (!decide ((bAt s x12_)=(34:Int)))) && (!decide ((bAt s x12_)=(92:Int)))) then (
   gd (qAf (x12_+(1:Int))) <|
   some (.inl (from_,(x12_+(1:Int)),b_addr,b_buf)))
  else (
   gd (0≤from_∧from_≤x12_∧x12_≤s.size) <|
   (zbx_s (⟨b_addr,b_buf⟩:qHc) (s.extract (Int.toNat from_) (Int.toNat x12_))).bind fun r22 =>
   gd (qAf (x12_+(1:Int))) <|
   (zca_s (⟨#[8,12,10,13,9,34,92]⟩:BA) (bAt s x12_)).bind fun r23 =>
   bif decide ((0:Int)≤r23) then (
    gd (qAf (r23+(1:Int))) <|
    gd (0≤r23∧r23≤(r23+(1:Int))∧(r23+(1:Int))≤(⟨#[98,102,110,114,116,34,92]⟩:BA).size) <|
    gd ((⟨#[92]⟩:BA).size+((⟨#[98,102,110,114,116,34,92]⟩:BA).extract (Int.toNat r23) (Int.toNat (r23+(1:Int)))).size≤9223372036854775807) <|
    (zbx_s r22.1 ((⟨#[92]⟩:BA)++((⟨#[98,102,110,114,116,34,92]⟩:BA).extract (Int.toNat r23) (Int.toNat (r23+(1:Int)))))).bind fun r24 =>
    gd (qAf (x12_+(1:Int))) <|
    some (.inl ((x12_+(1:Int)),(x12_+(1:Int)),r24.1.addr,r24.1.buf)))
   else (
    gd (0≤(4:Int)) <|
    gd (0≤(4:Int)) <|
    gd (0≤((bAt s x12_) / 16)∧((bAt s x12_) / 16)≤((((bAt s x12_) / 16)+(1:Int)) % 256)∧((((bAt s x12_) / 16)+(1:Int)) % 256)≤(⟨#[48,49,50,51,52,53,54,55,56,57,97,98,99,100,101,102]⟩:BA).size) <|
    gd ((⟨#[92,117,48,48]⟩:BA).size+((⟨#[48,49,50,51,52,53,54,55,56,57,97,98,99,100,101,102]⟩:BA).extract (Int.toNat ((bAt s x12_) / 16)) (Int.toNat ((((bAt s x12_) / 16)+(1:Int)) % 256))).size≤9223372036854775807) <|
    gd (0≤(qAw .u8 (bAt s x12_) (15:Int))∧(qAw .u8 (bAt s x12_) (15:Int))≤(((qAw .u8 (bAt s x12_) (15:Int))+(1:Int)) % 256)∧(((qAw .u8 (bAt s x12_) (15:Int))+(1:Int)) % 256)≤(⟨#[48,49,50,51,52,53,54,55,56,57,97,98,99,100,101,102]⟩:BA).size) <|
    gd (((⟨#[92,117,48,48]⟩:BA)++((⟨#[48,49,50,51,52,53,54,55,56,57,97,98,99,100,101,102]⟩:BA).extract (Int.toNat ((bAt s x12_) / 16)) (Int.toNat ((((bAt s x12_) / 16)+(1:Int)) % 256)))).size+((⟨#[48,49,50,51,52,53,54,55,56,57,97,98,99,100,101,102]⟩:BA).extract (Int.toNat (qAw .u8 (bAt s x12_) (15:Int))) (Int.toNat (((qAw .u8 (bAt s x12_) (15:Int))+(1:Int)) % 256))).size≤9223372036854775807) <|
    (zbx_s r22.1 (((⟨#[92,117,48,48]⟩:BA)++((⟨#[48,49,50,51,52,53,54,55,56,57,97,98,99,100,101,102]⟩:BA).extract (Int.toNat ((bAt s x12_) / 16)) (Int.toNat ((((bAt s x12_) / 16)+(1:Int)) % 256))))++((⟨#[48,49,50,51,52,53,54,55,56,57,97,98,99,100,101,102]⟩:BA).extract (Int.toNat (qAw .u8 (bAt s x12_) (15:Int))) (Int.toNat (((qAw .u8 (bAt s x12_) (15:Int))+(1:Int)) % 256))))).bind fun r25 =>
    gd (qAf (x12_+(1:Int))) <|
    some (.inl ((x12_+(1:Int)),(x12_+(1:Int)),r25.1.addr,r25.1.buf)))))
 else (
  some (.inr (from_,b_addr,b_buf)))
def zap_p0 (s:BA) (from_ x11_ x12_:Int) (b_addr:Bool) (b_buf:List Int):Option (Int × Bool × (List Int)) :=
 qBj (fun x:(Int × Int × Bool × (List Int))=>qEc s x.1 x11_ x.2.1 x.2.2.1 x.2.2.2) (from_,x12_,b_addr,b_buf)
def zap_s (b:qHc) (s:BA):Option qHc :=
 (zbw_s b (34:Int)).bind fun r21 =>
 (zap_p0 s (0:Int) (s.size:Int) (0:Int) r21.1.addr r21.1.buf).bind fun o26 =>
 gd (0≤o26.1∧o26.1≤(s.size:Int)∧(s.size:Int)≤s.size) <|
 gd ((s.extract (Int.toNat o26.1) s.size).size+(⟨#[34]⟩:BA).size≤9223372036854775807) <|
 (zbx_s (⟨o26.2.1,o26.2.2⟩:qHc) ((s.extract (Int.toNat o26.1) s.size)++(⟨#[34]⟩:BA))).bind fun r27 =>
 some r27.1
def zap_G:Nat→Option CQ:=tblQ [(115,zbw_w),(113,zbx_w),(147,zca_w)]
theorem zap_Gok:∀f C,zap_G f=some C→qAe Tryd.prog f C:=qAl ⟨zbw_ok,zbx_ok,zca_ok,tV⟩
def zDJW3:=(dCells 107 (qAb (dP 0 0) (qAb (dO 2) dNil)))
def zap_d0:=(dQS (qAb (dSO 0 (dH 0 0)) (qAb (dSO 1 dS) (qAb (dSO 4 dZ) (qAb (dSO 11 dZ) (qAb (dSO 12 dZ) dNil))))) (qAb zDJW3 (qAb dDead (qAb (dRow .u8 5) dNil))))
def zap_l0:SubQ:=mkL zap_d0 (fun x=>zap_p0 x.1.2.1 x.1.2.2.1 x.1.2.2.2.1 x.1.2.2.2.2.1 x.2.1.1 x.2.2.2.1) fun x r R kn kx kr=>kx 0 ⟨[sL 0 (.hd 0 0),sL 1 (.vS x.1.2.1),sL 4 (.vI r.1)],[],[.cells 107 [.opt r.2.1 0 0,.own 2],.dead,.row .u8 5 r.2.2]⟩
def zap_L:Nat→SubQ:=tblL [(0,zap_l0)]
theorem zap_sub0:qB0 zap_L zap_G 2 13 70 0 zap_b0:=qAy (show zap_L 0=zap_l0 from by kernel_rfl) fun x R kn kx kr=>qA0 (step:=fun y=>qEc x.1.2.1 y.1 x.1.2.2.2.1 y.2.1 y.2.2.1 y.2.2.2) (enc:=fun (y:Int × Int × Bool × (List Int))=>zap_d0.e ((x.1.1,x.1.2.1,y.1,x.1.2.2.2.1,y.2.1,x.1.2.2.2.2.2),((y.2.2.1,x.2.1.2),x.2.2.1,y.2.2.2,x.2.2.2.2))) (fun y=>by kernel_rfl) (fun y ki=>by simp only [qEc,-eq_self,qAc,qAg,obA,obS,slL,slR,qAd]; kernel_rfl) (x.1.2.2.1,x.1.2.2.2.2.1,x.2.1.1,x.2.2.2.1)
theorem zap_subs:qAq zap_L zap_G 2 13 70 zap_q:=qAm (show qAr zap_L zap_G 2 13 70 [(0,zap_b0)] from ⟨zap_sub0,tV⟩)
def zap_da:=(qAb (dVC (dCO (dH 0 0))) (qAb (dVC (dCO dS)) dNil))
def zap_db:=(qAb zDJW2 (qAb (dRow .u8 5) dNil))
def zap_c:CS:=mkC zap_da zap_db (fun x y=>zap_s (⟨y.1.1,y.2.1⟩:qHc) x.2.1) (fun x y r=>.tup []) fun x y r=>[.cells 107 [.opt r.addr 0 0,.own 2],.dead,.row .u8 5 r.buf]
theorem zap_val:qAn Tryd.prog 114 zap_c:=qAp zap_chk 13 zap_Gok 2 (fun x=>Nat.le_of_ble_eq_true rfl) (fun y=>rfl) zap_subs fun x y=>by
 simp only [zap_s,-eq_self,qAc,qAg,obA,obS,slL,slR,qAd];kernel_rfl
def zap_w:CQ:=qB4 [(0,some 0,none),(0,some 1,some (.u8,5))] (qC3 [true,true] zap_c)
theorem zap_ok:qAe Tryd.prog 114 zap_w:=qAv zap_val
def zbk_da:=(qAb (dVC (dCO (dH 0 0))) (qAb (dVC (dCO (dO 1))) (qAb (dVC (dCO dZ)) dNil)))
def zbk_db:=(qAb zDJW3 (qAb (qBn .node) (qAb (dRow .u8 5) dNil)))
def zbk_cs (self:qHc→(List Eng.Node)→Int→Option (qHc × Int)):CS:=mkC zbk_da zbk_db (fun x y=>self (⟨y.1.1,y.2.2.1⟩:qHc) y.2.1 x.2.2.1) (fun x y r=>.c (.o (.vI r.2))) fun x y r=>[.cells 107 [.opt r.1.addr 0 0,.own 3],.view .node y.2.1,.dead,.row .u8 5 r.1.buf]
def zbk_ws (self:qHc→(List Eng.Node)→Int→Option (qHc × Int)):CQ:=qB4 [(0,some 0,none),(0,some 1,some (.u8,5)),(1,none,some (.node,36))] (qC3 [true,false,true] (zbk_cs self))
def zbk_b2:IQ:=(.join [] [0,1,2,7,8,26,27] (.seq (.seq (rg 36 [oP 34 (.faddr 0 t7),oP 35 (.load none t34),oP 36 (.bi .eql t35 (vI 7))]) (.cond t36 (.seq (rg 43 [oM 37 t0,oM 38 t1,oM 39 t2,oP 40 (.iaddr 6 t38 t39),oP 41 (.faddr 1 t40),oP 42 (.load none t41),oP 43 (.call 114 [t37,t42])]) (rg 45 [oM 44 t0,oP 45 (.call 115 [t44,(vC 58)])])) .skip)) (rg 2 [oM 46 t0,oM 47 t1,oM 48 t2,oP 49 (.call 80 [t46,t47,t48]),oM 2 t49])))
def zbk_b1:IQ:=(.loop [0,1,2,7,8,26,27] (.seq (rg 28 [oP 28 (.bi .lss t27 t26)]) (.seq (.cond t28 .skip (.cn [0,2,8] (.exit 1))) (.seq (.block 2 (.seq (rg 9 [oM 29 t27,oM 9 t29]) (.seq (.seq (rg 31 [oM 30 t9,oP 31 (.bi .gtr t30 (vI 0))]) (.cond t31 (rg 33 [oM 32 t0,oP 33 (.call 115 [t32,(vC 44)])]) .skip)) (.cn [0,1,2,7,8,26,27] (.sub 2 zbk_b2))))) (rg 27 [oP 50 (.bi .add t27 (vI 1)),oM 27 t50])))))
def zbk_b0:IQ:=(.join [] [0,2] (.seq (rg 24 [oM 21 t0,oM 22 t8,oP 23 (.index t22 (vI 0)),oP 24 (.call 115 [t21,t23])]) (.seq (.seq (rg 27 [oP 25 (.faddr 5 t7),oP 26 (.load none t25),oP 27 (.mv (vI 0))]) (.block 1 (.cn [0,1,2,7,8,26,27] (.sub 1 zbk_b1)))) (rg 54 [oM 51 t0,oM 52 t8,oP 53 (.index t52 (vI 1)),oP 54 (.call 115 [t51,t53])]))))
def zbk_q:IQ:=(.seq (rg 6 [oP 6 (.mv (vI 0))]) (.seq (rg 0 [oM 10 t1,oM 11 t2,oP 12 (.iaddr 6 t10 t11),oP 13 (.load (some 6) t12),oP 7 (.alloc 36 [.int .i64 0,.string ⟨#[]⟩,.string ⟨#[]⟩,.bool false,.int .i64 0,.int .i64 0]),oN (.store 6 t7 t13)]) (.seq (rg 2 [oM 14 t2,oP 15 (.bi .add t14 (vI 1)),oM 2 t15]) (.seq (.seq (rg 17 [oP 16 (.faddr 0 t7),oP 17 (.load none t16)]) (.block 0 (.seq (rg 55 [oP 56 (.bi .eql t17 (vI 1)),oM 55 t56]) (.cond t55 (rg 58 [oM 57 t0,oP 58 (.call 113 [t57,(.v (.string ⟨#[110,117,108,108]⟩))])]) (.seq (rg 59 [oP 60 (.bi .eql t17 (vI 2)),oM 59 t60]) (.cond t59 (rg 62 [oM 61 t0,oP 62 (.call 113 [t61,(.v (.string ⟨#[102,97,108,115,101]⟩))])]) (.seq (rg 63 [oP 64 (.bi .eql t17 (vI 3)),oM 63 t64]) (.cond t63 (rg 66 [oM 65 t0,oP 66 (.call 113 [t65,(.v (.string ⟨#[116,114,117,101]⟩))])]) (.seq (rg 67 [oP 68 (.bi .eql t17 (vI 4)),oM 67 t68]) (.cond t67 (rg 72 [oM 69 t0,oP 70 (.faddr 2 t7),oP 71 (.load none t70),oP 72 (.call 113 [t69,t71])]) (.seq (rg 73 [oP 74 (.bi .eql t17 (vI 5)),oM 73 t74]) (.cond t73 (rg 78 [oM 75 t0,oP 76 (.faddr 2 t7),oP 77 (.load none t76),oP 78 (.call 114 [t75,t77])]) (.seq (rg 8 [oP 8 (.mv (.v (.string ⟨#[91,93]⟩)))]) (.seq (.seq (rg 20 [oP 18 (.faddr 0 t7),oP 19 (.load none t18),oP 20 (.bi .eql t19 (vI 7))]) (.cond t20 (rg 8 [oP 8 (.mv (.v (.string ⟨#[123,125]⟩)))]) .skip)) (.cn [0,1,2,7,8] (.sub 0 zbk_b0)))))))))))))))) (.seq (rg 6 [oM 79 t2,oM 6 t79]) (.canon [(2000000,some 0,.u8,0)] [6] .ret))))))
theorem zbk_chk:chk Tryd.prog 80 []=some (zbk_q.erase,[.tmp 6],80):=by kernel_rfl
def zbk_p2 (self:qHc→(List Eng.Node)→Int→Option (qHc × Int)) (at_:Int) (b_addr:Bool) (v:List Eng.Node) (qHm:Int) (b_buf:List Int):Option (Int × Bool × (List Int)) :=
 bif decide (qHm=(7:Int)) then (
  gd (0≤at_∧at_<v.length) <|
  gd ((Int.toNat at_)<v.length) <|
  gd ((Int.toNat at_)<v.length) <|
  (zap_s (⟨b_addr,b_buf⟩:qHc) ((v.getD (Int.toNat at_) (ET.dft .node)).key)).bind fun r57 =>
  (zbw_s r57 (58:Int)).bind fun r58 =>
  (self r58.1 v at_).bind fun r59 =>
  some (r59.2,r59.1.addr,r59.1.buf))
 else (
  (self (⟨b_addr,b_buf⟩:qHc) v at_).bind fun r60 =>
  some (r60.2,r60.1.addr,r60.1.buf))
def qEe (self:qHc→(List Eng.Node)→Int→Option (qHc × Int)) (at_ x26_ x27_:Int) (b_addr:Bool) (v:List Eng.Node) (qHm:Int) (b_buf:List Int):Option ((Int × Int × Bool × (List Int)) ⊕ (Int × Bool × (List Int))) :=
 bif decide (x27_<x26_) then (
  bif decide ((0:Int)<x27_) then (
   (zbw_s (⟨b_addr,b_buf⟩:qHc) (44:Int)).bind fun r56 =>
   (zbk_p2 self at_ r56.1.addr v qHm r56.1.buf).bind fun o61 =>
   gd (qAf (x27_+(1:Int))) <|
   some (.inl (o61.1,(x27_+(1:Int)),o61.2.1,o61.2.2)))
  else (
   (zbk_p2 self at_ b_addr v qHm b_buf).bind fun o62 =>
   gd (qAf (x27_+(1:Int))) <|
   some (.inl (o62.1,(x27_+(1:Int)),o62.2.1,o62.2.2))))
 else (
  some (.inr (at_,b_addr,b_buf)))
def zbk_p1 (self:qHc→(List Eng.Node)→Int→Option (qHc × Int)) (at_ x26_ x27_:Int) (b_addr:Bool) (v:List Eng.Node) (qHm:Int) (b_buf:List Int):Option (Int × Bool × (List Int)) :=
 qBj (fun x:(Int × Int × Bool × (List Int))=>qEe self x.1 x26_ x.2.1 x.2.2.1 v qHm x.2.2.2) (at_,x27_,b_addr,b_buf)
def zbk_p0 (self:qHc→(List Eng.Node)→Int→Option (qHc × Int)) (at_:Int) (signs:BA) (b_addr:Bool) (v:List Eng.Node) (b_buf:List Int) (qHm qHn:Int):Option (Int × Bool × (List Int)) :=
 gd (0≤(0:Int)∧(0:Int)<signs.size) <|
 (zbw_s (⟨b_addr,b_buf⟩:qHc) (bAt signs (0:Int))).bind fun r55 =>
 (zbk_p1 self at_ qHn (0:Int) r55.1.addr v qHm r55.1.buf).bind fun o63 =>
 gd (0≤(1:Int)∧(1:Int)<signs.size) <|
 (zbw_s (⟨o63.2.1,o63.2.2⟩:qHc) (bAt signs (1:Int))).bind fun r64 =>
 some (o63.1,r64.1.addr,r64.1.buf)
def zbk_t (self:qHc→(List Eng.Node)→Int→Option (qHc × Int)) (b:qHc) (v:(List Eng.Node)) (at_:Int):Option (qHc × Int) :=
 gd (0≤at_∧at_<v.length) <|
 gd ((Int.toNat at_)<v.length) <|
 gd (qAf (at_+(1:Int))) <|
 bif decide (((v.getD (Int.toNat at_) (ET.dft .node)).kind)=(1:Int)) then (
  (zbx_s b (⟨#[110,117,108,108]⟩:BA)).bind fun r50 =>
  some (r50.1,(at_+(1:Int))))
 else (
  bif decide (((v.getD (Int.toNat at_) (ET.dft .node)).kind)=(2:Int)) then (
   (zbx_s b (⟨#[102,97,108,115,101]⟩:BA)).bind fun r51 =>
   some (r51.1,(at_+(1:Int))))
  else (
   bif decide (((v.getD (Int.toNat at_) (ET.dft .node)).kind)=(3:Int)) then (
    (zbx_s b (⟨#[116,114,117,101]⟩:BA)).bind fun r52 =>
    some (r52.1,(at_+(1:Int))))
   else (
    bif decide (((v.getD (Int.toNat at_) (ET.dft .node)).kind)=(4:Int)) then (
     (zbx_s b ((v.getD (Int.toNat at_) (ET.dft .node)).text)).bind fun r53 =>
     some (r53.1,(at_+(1:Int))))
    else (
     bif decide (((v.getD (Int.toNat at_) (ET.dft .node)).kind)=(5:Int)) then (
      (zap_s b ((v.getD (Int.toNat at_) (ET.dft .node)).text)).bind fun r54 =>
      some (r54,(at_+(1:Int))))
     else (
      bif decide (((v.getD (Int.toNat at_) (ET.dft .node)).kind)=(7:Int)) then (
       (zbk_p0 self (at_+(1:Int)) (⟨#[123,125]⟩:BA) b.addr v b.buf ((v.getD (Int.toNat at_) (ET.dft .node)).kind) ((v.getD (Int.toNat at_) (ET.dft .node)).kids)).bind fun o65 =>
       some ((⟨o65.2.1,o65.2.2⟩:qHc),o65.1))
      else (
       (zbk_p0 self (at_+(1:Int)) (⟨#[91,93]⟩:BA) b.addr v b.buf ((v.getD (Int.toNat at_) (ET.dft .node)).kind) ((v.getD (Int.toNat at_) (ET.dft .node)).kids)).bind fun o66 =>
       some ((⟨o66.2.1,o66.2.2⟩:qHc),o66.1)))))))
def zbk_G (self:qHc→(List Eng.Node)→Int→Option (qHc × Int)):Nat→Option CQ:=tblQ [(113,zbx_w),(114,zap_w),(115,zbw_w),(80,zbk_ws self)]
theorem zbk_Gok (self:qHc→(List Eng.Node)→Int→Option (qHc × Int)) (hself:qAe Tryd.prog 80 (zbk_ws self)):∀f C,(zbk_G self) f=some C→qAe Tryd.prog f C:=qAl ⟨zbx_ok,zap_ok,zbw_ok,hself,tV⟩
def zDJW1:=(dCells 36 (qAb dZ (qAb dS (qAb dS (qAb dB (qAb dZ (qAb dZ dNil)))))))
def zbk_d2:=(dQS (qAb (dSO 0 (dH 0 0)) (qAb (dSO 1 (dO 1)) (qAb (dSO 2 dZ) (qAb (dSO 7 (dH 3 0)) (qAb (dSO 8 dS) (qAb (dSO 26 dZ) (qAb (dSO 27 dZ) dNil))))))) (qAb (dCells 107 (qAb (dP 0 0) (qAb (dO 4) dNil))) (qAb (qBn .node) (qAb dDead (qAb zDJW1 (qAb (dRow .u8 5) dNil))))))
def zbk_l2 (self:qHc→(List Eng.Node)→Int→Option (qHc × Int)):SubQ:=mkL zbk_d2 (fun x=>zbk_p2 self x.1.2.2.1 x.2.1.1 x.2.2.1 x.2.2.2.2.1.1 x.2.2.2.2.2.1) fun x r R kn kx kr=>kn ⟨[sL 0 (.hd 0 0),sL 1 (.own 1),sL 2 (.vI r.1),sL 7 (.hd 3 0),sL 8 (.vS x.1.2.2.2.2.1),sL 26 (.vI x.1.2.2.2.2.2.1),sL 27 (.vI x.1.2.2.2.2.2.2.1)],[],[.cells 107 [.opt r.2.1 0 0,.own 4],.view .node x.2.2.1,.dead,.cells 36 [.vI x.2.2.2.2.1.1,.vS x.2.2.2.2.1.2.1,.vS x.2.2.2.2.1.2.2.1,.vB x.2.2.2.2.1.2.2.2.1,.vI x.2.2.2.2.1.2.2.2.2.1,.vI x.2.2.2.2.1.2.2.2.2.2.1],.row .u8 5 r.2.2]⟩
def zbk_d1:=(dQS (qAb (dSO 0 (dH 0 0)) (qAb (dSO 1 (dO 1)) (qAb (dSO 2 dZ) (qAb (dSO 7 (dH 3 0)) (qAb (dSO 8 dS) (qAb (dSO 26 dZ) (qAb (dSO 27 dZ) dNil))))))) (qAb (dCells 107 (qAb (dP 0 0) (qAb (dO 4) dNil))) (qAb (qBn .node) (qAb dDead (qAb zDJW1 (qAb (dRow .u8 5) dNil))))))
def zbk_l1 (self:qHc→(List Eng.Node)→Int→Option (qHc × Int)):SubQ:=mkL zbk_d1 (fun x=>zbk_p1 self x.1.2.2.1 x.1.2.2.2.2.2.1 x.1.2.2.2.2.2.2.1 x.2.1.1 x.2.2.1 x.2.2.2.2.1.1 x.2.2.2.2.2.1) fun x r R kn kx kr=>kx 1 ⟨[sL 0 (.hd 0 0),sL 2 (.vI r.1),sL 8 (.vS x.1.2.2.2.2.1)],[],[.cells 107 [.opt r.2.1 0 0,.own 3],.view .node x.2.2.1,.dead,.row .u8 5 r.2.2]⟩
def zbk_d0:=(dQS (qAb (dSO 0 (dH 0 0)) (qAb (dSO 1 (dO 1)) (qAb (dSO 2 dZ) (qAb (dSO 7 (dH 3 0)) (qAb (dSO 8 dS) dNil))))) (qAb zDJW3 (qAb (qBn .node) (qAb (dRow .u8 5) (qAb zDJW1 dNil)))))
def zbk_l0 (self:qHc→(List Eng.Node)→Int→Option (qHc × Int)):SubQ:=mkL zbk_d0 (fun x=>zbk_p0 self x.1.2.2.1 x.1.2.2.2.2.1 x.2.1.1 x.2.2.1 x.2.2.2.1 x.2.2.2.2.1.1 x.2.2.2.2.1.2.2.2.2.2.1) fun x r R kn kx kr=>kn ⟨[sL 0 (.hd 0 0),sL 2 (.vI r.1)],[],[.cells 107 [.opt r.2.1 0 0,.own 3],.view .node x.2.2.1,.dead,.row .u8 5 r.2.2]⟩
def zbk_L (self:qHc→(List Eng.Node)→Int→Option (qHc × Int)):Nat→SubQ:=tblL [(2,zbk_l2 self),(1,zbk_l1 self),(0,zbk_l0 self)]
theorem zbk_sub2 (self:qHc→(List Eng.Node)→Int→Option (qHc × Int)):qB0 (zbk_L self) (zbk_G self) 3 28 80 2 zbk_b2:=qAy (show (zbk_L self) 2=(zbk_l2 self) from by kernel_rfl) fun x R kn kx kr=>by
 simp only [zbk_p2,-eq_self,qAc,qAg,obA,obS,slL,slR,qAd];kernel_rfl
theorem zbk_sub1 (self:qHc→(List Eng.Node)→Int→Option (qHc × Int)):qB0 (zbk_L self) (zbk_G self) 3 28 80 1 zbk_b1:=qAy (show (zbk_L self) 1=(zbk_l1 self) from by kernel_rfl) fun x R kn kx kr=>qA0 (step:=fun y=>qEe self y.1 x.1.2.2.2.2.2.1 y.2.1 y.2.2.1 x.2.2.1 x.2.2.2.2.1.1 y.2.2.2) (enc:=fun (y:Int × Int × Bool × (List Int))=>zbk_d1.e ((x.1.1,x.1.2.1,y.1,x.1.2.2.2.1,x.1.2.2.2.2.1,x.1.2.2.2.2.2.1,y.2.1,x.1.2.2.2.2.2.2.2),((y.2.2.1,x.2.1.2),x.2.2.1,x.2.2.2.1,x.2.2.2.2.1,y.2.2.2,x.2.2.2.2.2.2))) (fun y=>by kernel_rfl) (fun y ki=>by simp only [qEe,-eq_self,qAc,qAg,obA,obS,slL,slR,qAd]; kernel_rfl) (x.1.2.2.1,x.1.2.2.2.2.2.2.1,x.2.1.1,x.2.2.2.2.2.1)
theorem zbk_sub0 (self:qHc→(List Eng.Node)→Int→Option (qHc × Int)):qB0 (zbk_L self) (zbk_G self) 3 28 80 0 zbk_b0:=qAy (show (zbk_L self) 0=(zbk_l0 self) from by kernel_rfl) fun x R kn kx kr=>by
 simp only [zbk_p0,-eq_self,qAc,qAg,obA,obS,slL,slR,qAd];kernel_rfl
theorem zbk_subs (self:qHc→(List Eng.Node)→Int→Option (qHc × Int)):qAq (zbk_L self) (zbk_G self) 3 28 80 zbk_q:=qAm (show qAr (zbk_L self) (zbk_G self) 3 28 80 [(0,zbk_b0),(1,zbk_b1),(2,zbk_b2)] from ⟨(zbk_sub0 self),(zbk_sub1 self),(zbk_sub2 self),tV⟩)
theorem zbk_val_t (self:qHc→(List Eng.Node)→Int→Option (qHc × Int)) (hself:qAe Tryd.prog 80 (zbk_ws self)):qAn Tryd.prog 80 (zbk_cs (zbk_t self)):=qAp zbk_chk 28 (zbk_Gok self hself) 3 (fun x=>Nat.le_of_ble_eq_true rfl) (fun y=>rfl) (zbk_subs self) fun x y=>by
 simp only [zbk_t,-eq_self,qAc,qAg,obA,obS,slL,slR,qAd];kernel_rfl
def zbk_n:Nat→qHc→(List Eng.Node)→Int→Option (qHc × Int)
 | 0=>fun _ _ _=>none
 | n+1=>zbk_t (zbk_n n)
def zbk_s (b:qHc) (v:(List Eng.Node)) (at_:Int):Option (qHc × Int):=evt fun n=>zbk_n n b v at_
theorem zbk_valn:∀n,qAn Tryd.prog 80 (zbk_cs (zbk_n n))
 | 0=>qAn.zero fun args hp R k=>by
  show ((Dec.d zbk_da args).bind fun x=>(Dec.d zbk_db hp).bind fun y=>none)=none;cases Dec.d zbk_da args with
  | none=>rfl
  | some x=>cases Dec.d zbk_db hp <;> rfl
 | n+1=>zbk_val_t (zbk_n n) (qAv (zbk_valn n))
theorem zbk_val:qAn Tryd.prog 80 (zbk_cs zbk_s):=qAn.evt zbk_valn (fun args hp R k=>by
  show ((Dec.d zbk_da args).bind fun x=>(Dec.d zbk_db hp).bind fun y=>_)=(((Dec.d zbk_da args).bind fun x=>(Dec.d zbk_db hp).bind fun y=>_):Option (SV × List SB)).bind _;cases Dec.d zbk_da args with
  | none=>rfl
  | some x =>
   cases Dec.d zbk_db hp with
   | none=>rfl
   | some y=>simp only [obS,Option.bind_assoc]) fun args hp v hp' h=>by
  obtain ⟨x,h1,h2⟩:=Option.bind_eq_some_iff.1 h;obtain ⟨y,h3,h4⟩:=Option.bind_eq_some_iff.1 h2;obtain ⟨r,h5,h6⟩:=Option.bind_eq_some_iff.1 h4;obtain ⟨n,h7⟩:=evt_some h5;refine ⟨n,?_⟩;show ((Dec.d zbk_da args).bind fun x=>(Dec.d zbk_db hp).bind fun y=>_)=_;rw [h1];simp only [obS];rw [h3];simp only [obS];exact (congrArg (fun z=>Option.bind z _) h7).trans h6
def zbk_w:CQ:=zbk_ws zbk_s
theorem zbk_ok:qAe Tryd.prog 80 zbk_w:=qAv zbk_val
def zbu_q:IQ:=(.seq (rg 2 [oP 2 (.mv (vI 0))]) (.seq (rg 2 (rF 3 t0 1++[oP 7 (.len t6),oM 2 t7])) (.canon [(2000000,some 0,.u8,0)] [2] .ret)))
theorem zbu_chk:chk Tryd.prog 81 []=some (zbu_q.erase,[.tmp 2],8):=by kernel_rfl
def zbu_s (b:qHc):Option Int :=
 some (b.buf.length:Int)
def zbu_G:Nat→Option CQ:=tblQ []
theorem zbu_Gok:∀f C,zbu_G f=some C→qAe Tryd.prog f C:=fun f C h=>by cases h
def zbu_L:Nat→SubQ:=tblL []
theorem zbu_subs:qAq zbu_L zbu_G 2 3 8 zbu_q:=qAm (show qAr zbu_L zbu_G 2 3 8 [] from tV)
def zbu_da:=(qAb (dVC (dCO (dH 0 0))) dNil)
def zbu_db:=(qAb zDJW2 (qAb (qBn .u8) dNil))
def zbu_c:CS:=mkC zbu_da zbu_db (fun x y=>zbu_s (⟨y.1.1,y.2.1⟩:qHc)) (fun x y r=>.c (.o (.vI r))) fun x y r=>[.cells 107 [.opt y.1.1 0 0,.own 1],.view .u8 y.2.1]
theorem zbu_val:qAn Tryd.prog 81 zbu_c:=qAp zbu_chk 3 zbu_Gok 2 (fun x=>Nat.le_of_ble_eq_true rfl) (fun y=>rfl) zbu_subs fun x y=>by
 simp only [zbu_s,-eq_self,qAc,qAg,obA,obS,slL,slR,qAd];kernel_rfl
def zbu_w:CQ:=qB4 [(0,some 0,none),(0,some 1,some (.u8,5))] (qC3 [true,false] zbu_c)
theorem zbu_ok:qAe Tryd.prog 81 zbu_w:=qAv zbu_val
def zbv_q:IQ:=(.seq (rg 2 [oP 2 (.mv (.v (.string ⟨#[]⟩)))]) (.seq (.reg 2 (some [0,1,2,3,4,5,6,7,8,9,10,11]) (rF 3 t0 1++[oP 7 (.ext .sdata [t6])]++rF 8 t0 1++[oP 12 (.len t11),oP 13 (.ext (.ustr 5) [t7,t12]),oM 2 t13])) (.canon [(2000000,some 0,.u8,0)] [2] .ret)))
theorem zbv_chk:chk Tryd.prog 82 []=some (zbv_q.erase,[.tmp 2],14):=by kernel_rfl
def zbv_s (b:qHc):Option (qHc × BA) :=
 gd (0<b.buf.length) <|
 gd ((b.buf.length:Int)=b.buf.length∧0<b.buf.length∧∀x∈b.buf,0≤x∧x<256) <|
 some ((⟨b.addr,[]⟩:qHc),(qA3 b.buf))
def zbv_G:Nat→Option CQ:=tblQ []
theorem zbv_Gok:∀f C,zbv_G f=some C→qAe Tryd.prog f C:=fun f C h=>by cases h
def zbv_L:Nat→SubQ:=tblL []
theorem zbv_subs:qAq zbv_L zbv_G 2 3 14 zbv_q:=qAm (show qAr zbv_L zbv_G 2 3 14 [] from tV)
def zbv_da:=(qAb (dVC (dCO (dH 0 0))) dNil)
def zbv_db:=(qAb zDJW2 (qAb (dRow .u8 5) dNil))
def zbv_c:CS:=mkC zbv_da zbv_db (fun x y=>zbv_s (⟨y.1.1,y.2.1⟩:qHc)) (fun x y r=>.c (.o (.vS r.2))) fun x y r=>[.cells 107 [.opt r.1.addr 0 0,.own 1],.dead]
theorem zbv_val:qAn Tryd.prog 82 zbv_c:=qAp zbv_chk 3 zbv_Gok 2 (fun x=>Nat.le_of_ble_eq_true rfl) (fun y=>rfl) zbv_subs fun x y=>by
 simp only [zbv_s,-eq_self,qAc,qAg,obA,obS,slL,slR,qAd];kernel_rfl
def zbv_w:CQ:=qB4 [(0,some 0,none),(0,some 1,some (.u8,5))] (qC3 [true,true] zbv_c)
theorem zbv_ok:qAe Tryd.prog 82 zbv_w:=qAv zbv_val
def zal_q:IQ:=(.seq (rg 3 [oP 2 (.mv (.v (.string ⟨#[]⟩))),oP 3 (.mv (vI 0))]) (.seq (.seq (rg 7 [oM 5 t0,oP 6 (.call 39 [t5]),oP 7 (.un .not t6)]) (.cond t7 (.seq (rg 3 [oP 2 (.mv (.v (.string ⟨#[]⟩))),oP 3 (.mv (vI 31))]) (.cn [2,3] .ret)) .skip)) (.seq (rg 4 [oP 4 (.alloc 107 [.pointer none,.slice none 0 0])]) (.seq (rg 9 [oM 8 t0,oP 9 (.call 80 [t4,t8,(vI 0)])]) (.seq (.seq (rg 11 [oP 10 (.call 81 [t4]),oP 11 (.bi .gtr t10 (vI 262144))]) (.cond t11 (.seq (rg 3 [oP 2 (.mv (.v (.string ⟨#[]⟩))),oP 3 (.mv (vI 10))]) (.cn [2,3] .ret)) .skip)) (.seq (rg 3 [oP 12 (.call 82 [t4]),oM 2 t12,oP 3 (.mv (vI 0))]) (.cn [2,3] .ret)))))))
theorem zal_chk:chk Tryd.prog 40 []=some (zal_q.erase,[.tmp 2,.tmp 3],13):=by kernel_rfl
def zal_s (v:(List Eng.Node)):Option (BA × Int) :=
 (zam_s v).bind fun r1 =>
 bif (!r1) then (
  some ((⟨#[]⟩:BA),(31:Int)))
 else (
  (zbk_s (⟨false,[]⟩:qHc) v (0:Int)).bind fun r2 =>
  (zbu_s r2.1).bind fun r3 =>
  bif decide ((262144:Int)<r3) then (
   some ((⟨#[]⟩:BA),(10:Int)))
  else (
   (zbv_s r2.1).bind fun r4 =>
   some (r4.2,(0:Int))))
def zal_G:Nat→Option CQ:=tblQ [(39,zam_w),(80,zbk_w),(81,zbu_w),(82,zbv_w)]
theorem zal_Gok:∀f C,zal_G f=some C→qAe Tryd.prog f C:=qAl ⟨zam_ok,zbk_ok,zbu_ok,zbv_ok,tV⟩
def zal_L:Nat→SubQ:=tblL []
theorem zal_subs:qAq zal_L zal_G 1 5 13 zal_q:=qAm (show qAr zal_L zal_G 1 5 13 [] from tV)
def zal_da:=(qAb (dVC (dCO (dO 0))) dNil)
def zal_db:=(qAb (qBn .node) dNil)
def zal_c:CS:=mkC zal_da zal_db (fun x y=>zal_s y.1) (fun x y r=>.tup [.o (.vS r.1),.o (.vI r.2)]) fun x y r=>[.view .node y.1]
theorem zal_val:qAn Tryd.prog 40 zal_c:=qAp zal_chk 5 zal_Gok 1 (fun x=>Nat.le_of_ble_eq_true rfl) (fun y=>rfl) zal_subs fun x y=>by
 simp only [zal_s,-eq_self,qAc,qAg,obA,obS,slL,slR,qAd];kernel_rfl
def zal_w:CQ:=qB4 [(0,none,some (.node,36))] (qDf [false] zal_c)
theorem zal_ok:qAe Tryd.prog 40 zal_w:=qC0 zal_val
def zbm_q:IQ:=(.seq (rg 0 [oP 0 (.mv vF)]) (.seq (rg 3 [oP 7 (.call 42 [(.v (.string ⟨#[32,123,34,97,34,58,91,49,44,34,92,117,48,48,101,57,34,93,125,32]⟩))]),oM 6 t7,oP 8 (.extract t6 0),oP 9 (.extract t6 1),oP 10 (.extract t6 2),oM 1 t8,oM 2 t9,oM 3 t10]) (.seq (rg 5 [oM 12 t1,oP 13 (.call 40 [t12]),oM 11 t13,oP 14 (.extract t11 0),oP 15 (.extract t11 1),oM 4 t14,oM 5 t15]) (.seq (rg 0 [oM 16 t2,oP 17 (.bi .eql t16 (vI 0)),oM 18 t17,oF 19 (.mv t5) 18,oF 20 (.bi .eql t19 (vI 0)) 18,oP 21 (.pick t18 t20 vF),oM 22 t21,oF 23 (.mv t1) 22,oF 24 (.len t23) 22,oF 25 (.bi .eql t24 (vI 4)) 22,oP 26 (.pick t22 t25 vF),oM 27 t26,oF 28 (.mv t1) 27,oF 29 (.iaddr 6 t28 (vI 1)) 27,oF 30 (.faddr 1 t29) 27,oF 31 (.load none t30) 27,oF 32 (.bi .eql t31 (.v (.string ⟨#[97]⟩))) 27,oP 33 (.pick t27 t32 vF),oM 34 t33,oF 35 (.mv t1) 34,oF 36 (.iaddr 6 t35 (vI 2)) 34,oF 37 (.faddr 4 t36) 34,oF 38 (.load none t37) 34,oF 39 (.bi .eql t38 (vI 1)) 34,oP 40 (.pick t34 t39 vF),oM 41 t40,oF 42 (.mv t1) 41,oF 43 (.iaddr 6 t42 (vI 3)) 41,oF 44 (.faddr 2 t43) 41,oF 45 (.load none t44) 41,oF 46 (.bi .eql t45 (.v (.string ⟨#[195,169]⟩))) 41,oP 47 (.pick t41 t46 vF),oM 48 t47,oF 49 (.mv t4) 48,oF 50 (.bi .eql t49 (.v (.string ⟨#[123,34,97,34,58,91,49,44,34,195,169,34,93,125]⟩))) 48,oP 51 (.pick t48 t50 vF),oM 52 t51,oF 53 (.mv t1) 52,oF 54 (.call 24 [t53,(vI 0),(.v (.string ⟨#[97]⟩))]) 52,oF 55 (.bi .eql t54 (vI 1)) 52,oP 56 (.pick t52 t55 vF),oM 0 t56]) (.cn [0] .ret)))))
theorem zbm_chk:chk Tryd.prog 45 []=some (zbm_q.erase,[.tmp 0],57):=by kernel_rfl
def zbm_s:Option Bool :=
 (zak_s (⟨#[32,123,34,97,34,58,91,49,44,34,92,117,48,48,101,57,34,93,125,32]⟩:BA)).bind fun r1 =>
 (zal_s r1.1).bind fun r2 =>
 gd ((((decide (r1.2.1=(0:Int))) && (decide (r2.2=(0:Int)))) && (decide ((r1.1.length:Int)=(4:Int))))=true→0≤(1:Int)∧(1:Int)<r1.1.length) <|
 gd ((((decide (r1.2.1=(0:Int))) && (decide (r2.2=(0:Int)))) && (decide ((r1.1.length:Int)=(4:Int))))=true→(Int.toNat (1:Int))<r1.1.length) <|
 gd ((((decide (r1.2.1=(0:Int))) && (decide (r2.2=(0:Int)))) && (decide ((r1.1.length:Int)=(4:Int))))=true→(Int.toNat (1:Int))<r1.1.length) <|
 gd (((((decide (r1.2.1=(0:Int))) && (decide (r2.2=(0:Int)))) && (decide ((r1.1.length:Int)=(4:Int)))) && (decide (((r1.1.getD (Int.toNat (1:Int)) (ET.dft .node)).key)=(⟨#[97]⟩:BA))))=true→0≤(2:Int)∧(2:Int)<r1.1.length) <|
 gd (((((decide (r1.2.1=(0:Int))) && (decide (r2.2=(0:Int)))) && (decide ((r1.1.length:Int)=(4:Int)))) && (decide (((r1.1.getD (Int.toNat (1:Int)) (ET.dft .node)).key)=(⟨#[97]⟩:BA))))=true→(Int.toNat (2:Int))<r1.1.length) <|
 gd (((((decide (r1.2.1=(0:Int))) && (decide (r2.2=(0:Int)))) && (decide ((r1.1.length:Int)=(4:Int)))) && (decide (((r1.1.getD (Int.toNat (1:Int)) (ET.dft .node)).key)=(⟨#[97]⟩:BA))))=true→(Int.toNat (2:Int))<r1.1.length) <|
 gd ((((((decide (r1.2.1=(0:Int))) && (decide (r2.2=(0:Int)))) && (decide ((r1.1.length:Int)=(4:Int)))) && (decide (((r1.1.getD (Int.toNat (1:Int)) (ET.dft .node)).key)=(⟨#[97]⟩:BA)))) && (decide (((r1.1.getD (Int.toNat (2:Int)) (ET.dft .node)).int)=(1:Int))))=true→0≤(3:Int)∧(3:Int)<r1.1.length) <|
 gd ((((((decide (r1.2.1=(0:Int))) && (decide (r2.2=(0:Int)))) && (decide ((r1.1.length:Int)=(4:Int)))) && (decide (((r1.1.getD (Int.toNat (1:Int)) (ET.dft .node)).key)=(⟨#[97]⟩:BA)))) && (decide (((r1.1.getD (Int.toNat (2:Int)) (ET.dft .node)).int)=(1:Int))))=true→(Int.toNat (3:Int))<r1.1.length) <|
 gd ((((((decide (r1.2.1=(0:Int))) && (decide (r2.2=(0:Int)))) && (decide ((r1.1.length:Int)=(4:Int)))) && (decide (((r1.1.getD (Int.toNat (1:Int)) (ET.dft .node)).key)=(⟨#[97]⟩:BA)))) && (decide (((r1.1.getD (Int.toNat (2:Int)) (ET.dft .node)).int)=(1:Int))))=true→(Int.toNat (3:Int))<r1.1.length) <|
 bif (((((((decide (r1.2.1=(0:Int))) && (decide (r2.2=(0:Int)))) && (decide ((r1.1.length:Int)=(4:Int)))) && (decide (((r1.1.getD (Int.toNat (1:Int)) (ET.dft .node)).key)=(⟨#[97]⟩:BA)))) && (decide (((r1.1.getD (Int.toNat (2:Int)) (ET.dft .node)).int)=(1:Int)))) && (decide (((r1.1.getD (Int.toNat (3:Int)) (ET.dft .node)).text)=(⟨#[195,169]⟩:BA)))) && (decide (r2.1=(⟨#[123,34,97,34,58,91,49,44,34,195,169,34,93,125]⟩:BA)))) then (
  (zaj_s r1.1 (0:Int) (⟨#[97]⟩:BA)).bind fun r3 =>
  some (decide (r3=(1:Int))))
 else (
  some false)
def zbm_G:Nat→Option CQ:=tblQ [(42,zak_w),(40,zal_w),(24,zaj_w)]
theorem zbm_Gok:∀f C,zbm_G f=some C→qAe Tryd.prog f C:=qAl ⟨zak_ok,zal_ok,zaj_ok,tV⟩
def zbm_L:Nat→SubQ:=tblL []
theorem zbm_subs:qAq zbm_L zbm_G 0 6 57 zbm_q:=qAm (show qAr zbm_L zbm_G 0 6 57 [] from tV)
def zbm_da:=(dNil:Dec Unit (List SV))
def zbm_db:=(dNil:Dec Unit (List SB))
def zbm_c:CS:=mkC zbm_da zbm_db (fun x y=>zbm_s) (fun x y r=>.c (.o (.vB r))) fun x y r=>[]
theorem zbm_val:qAn Tryd.prog 45 zbm_c:=qAp zbm_chk 6 zbm_Gok 0 (fun x=>Nat.le_of_ble_eq_true rfl) (fun y=>rfl) zbm_subs fun x y=>by
 simp only [zbm_s,-eq_self,qAc,qAg,obA,obS,slL,slR,qAd];kernel_rfl
def zbm_w:CQ:=qDf [] zbm_c
theorem zbm_ok:qAe Tryd.prog 45 zbm_w:=qAx zbm_val
def zbr_b0:IQ:=(.loop [0,1,5] (.seq (.seq (rg 14 [oM 11 t5,oM 12 t0,oP 13 (.len t12),oP 14 (.bi .lss t11 t13)]) (.cond t14 .skip (.cn [] (.exit 0)))) (.seq (.block 1 (.seq (.reg 25 (some [0,1,2,3,4,5,6,7,8]) [oM 17 t0,oM 18 t5,oP 19 (.iaddr 6 t17 t18),oP 20 (.load (some 6) t19),oM 21 t1,oM 22 t5,oP 23 (.iaddr 6 t21 t22),oP 24 (.load (some 6) t23),oP 25 (.ext (.aggEq true [.int .i64,.str,.str,.bool,.int .i64,.int .i64]) [t20,t24])]) (.cond t25 (.seq (rg 4 [oP 4 (.mv vF)]) (.cn [4] .ret)) .skip))) (rg 5 [oM 15 t5,oP 16 (.bi .add t15 (vI 1)),oM 5 t16]))))
def zbr_q:IQ:=(.seq (rg 4 [oP 4 (.mv vF)]) (.seq (.seq (rg 10 [oM 6 t0,oP 7 (.len t6),oM 8 t1,oP 9 (.len t8),oP 10 (.bi .neq t7 t9)]) (.cond t10 (.seq (rg 4 [oP 4 (.mv vF)]) (.cn [4] .ret)) .skip)) (.seq (.seq (rg 5 [oP 5 (.mv (vI 0))]) (.block 0 (.cn [0,1,5] (.sub 0 zbr_b0)))) (.seq (rg 4 [oP 4 (.mv vT)]) (.cn [4] .ret)))))
theorem zbr_chk:chk Tryd.prog 46 []=some (zbr_q.erase,[.tmp 4],26):=by kernel_rfl
def qFl (i:Int) (a b:List Eng.Node):Option (Int ⊕ (Bool ⊕ Unit)) :=
 bif decide (i<(a.length:Int)) then (
  gd (0≤i∧i<a.length) <|
  gd ((Int.toNat i)<a.length) <|
  gd (0≤i∧i<b.length) <|
  gd ((Int.toNat i)<b.length) <|
  bif (!(decide (((a.getD (Int.toNat i) (ET.dft .node)).kind)=((b.getD (Int.toNat i) (ET.dft .node)).kind)) && (decide (((a.getD (Int.toNat i) (ET.dft .node)).key)=((b.getD (Int.toNat i) (ET.dft .node)).key)) && (decide (((a.getD (Int.toNat i) (ET.dft .node)).text)=((b.getD (Int.toNat i) (ET.dft .node)).text)) && ((((a.getD (Int.toNat i) (ET.dft .node)).whole) == ((b.getD (Int.toNat i) (ET.dft .node)).whole)) && (decide (((a.getD (Int.toNat i) (ET.dft .node)).int)=((b.getD (Int.toNat i) (ET.dft .node)).int)) && (decide (((a.getD (Int.toNat i) (ET.dft .node)).kids)=((b.getD (Int.toNat i) (ET.dft .node)).kids)) && true))))))) then (
   some (.inr (.inl false)))
  else (
   gd (qAf (i+(1:Int))) <|
   some (.inl (i+(1:Int)))))
 else (
  some (.inr (.inr ())))
def zbr_p0 (i:Int) (a b:List Eng.Node):Option (Bool ⊕ Unit) :=
 qBj (fun x:Int=>qFl x a b) i
def zbr_s (a b:(List Eng.Node)):Option Bool :=
 bif (!decide ((a.length:Int)=(b.length:Int))) then (
  some false)
 else (
  (zbr_p0 (0:Int) a b).bind fun o1=>(Sum.elim (fun (o1_0:Bool) =>
   some o1_0) (fun (o1_1:Unit) =>
   some true)) o1)
def zbr_G:Nat→Option CQ:=tblQ []
theorem zbr_Gok:∀f C,zbr_G f=some C→qAe Tryd.prog f C:=fun f C h=>by cases h
def zbr_d0:=(dQS (qAb (dSO 0 (dO 0)) (qAb (dSO 1 (dO 1)) (qAb (dSO 5 dZ) dNil))) (qAb (qBn .node) (qAb (qBn .node) dNil)))
def zbr_l0:SubQ:=mkL zbr_d0 (fun x=>zbr_p0 x.1.2.2.1 x.2.1 x.2.2.1) fun x r R kn kx kr=>(Sum.elim (fun (r_0:Bool)=>kr ⟨[sL 4 (.vB r_0)],[],[.view .node x.2.1,.view .node x.2.2.1]⟩) (fun (r_1:Unit)=>kx 0 ⟨[],[],[.view .node x.2.1,.view .node x.2.2.1]⟩)) r
def zbr_L:Nat→SubQ:=tblL [(0,zbr_l0)]
theorem zbr_sub0:qB0 zbr_L zbr_G 2 6 26 0 zbr_b0:=qAy (show zbr_L 0=zbr_l0 from by kernel_rfl) fun x R kn kx kr=>qA0 (step:=fun y=>qFl y x.2.1 x.2.2.1) (enc:=fun (y:Int)=>zbr_d0.e ((x.1.1,x.1.2.1,y,x.1.2.2.2),x.2)) (fun y=>by kernel_rfl) (fun y ki=>by simp only [qFl,-eq_self,qAc,qAg,obA,obS,slL,slR,qAd]; kernel_rfl) x.1.2.2.1
theorem zbr_subs:qAq zbr_L zbr_G 2 6 26 zbr_q:=qAm (show qAr zbr_L zbr_G 2 6 26 [(0,zbr_b0)] from ⟨zbr_sub0,tV⟩)
def zbr_da:=(qAb (dVC (dCO (dO 0))) (qAb (dVC (dCO (dO 1))) dNil))
def zbr_db:=(qAb (qBn .node) (qAb (qBn .node) dNil))
def zbr_c:CS:=mkC zbr_da zbr_db (fun x y=>zbr_s y.1 y.2.1) (fun x y r=>.c (.o (.vB r))) fun x y r=>[.view .node y.1,.view .node y.2.1]
theorem zbr_val:qAn Tryd.prog 46 zbr_c:=qAp zbr_chk 6 zbr_Gok 2 (fun x=>Nat.le_of_ble_eq_true rfl) (fun y=>rfl) zbr_subs fun x y=>by
 simp only [zbr_s,-eq_self,qAc,qAg,obA,obS,slL,slR,qAd];kernel_rfl
def zbr_w:CQ:=qB4 [(0,none,some (.node,36)),(1,none,some (.node,36))] (qDf [false,false] zbr_c)
theorem zbr_ok:qAe Tryd.prog 46 zbr_w:=qC0 zbr_val
def zbp_b1:IQ:=(.loop [0,1,6,7,8] (.seq (.seq (rg 37 [oM 35 t8,oM 36 t7,oP 37 (.bi .lss t35 t36)]) (.cond t37 .skip (.cn [6,7] (.exit 1)))) (.seq (.block 2 (rg 6 [oM 40 t6,oP 41 (.bi .shl t40 (.v (.int .u64 6))),oM 42 t0,oM 43 t1,oM 44 t8,oP 45 (.bi .add t43 t44),oP 46 (.index t42 t45),oP 47 (.conv false .i64 t46),oP 48 (.bi .and t47 (vI 63)),oP 49 (.bi .or t41 t48),oM 6 t49])) (rg 8 [oM 38 t8,oP 39 (.bi .add t38 (vI 1)),oM 8 t39]))))
def zbp_b0:IQ:=(.seq (.seq (rg 33 [oM 28 t1,oM 29 t7,oP 30 (.bi .add t28 t29),oM 31 t0,oP 32 (.lenS t31),oP 33 (.bi .gtr t30 t32)]) (.cond t33 (.seq (rg 5 [oM 34 t6,oM 4 t34,oP 5 (.mv (vI 1))]) (.cn [4,5] .ret)) .skip)) (.seq (.seq (rg 8 [oP 8 (.mv (vI 1))]) (.block 1 (.cn [0,1,6,7,8] (.sub 1 zbp_b1)))) (.seq (rg 5 [oM 50 t6,oM 51 t7,oM 4 t50,oM 5 t51]) (.cn [4,5] .ret))))
def zbp_q:IQ:=(.seq (rg 5 [oP 4 (.mv (vI 0)),oP 5 (.mv (vI 0))]) (.seq (rg 6 [oM 9 t0,oM 10 t1,oP 11 (.index t9 t10),oP 12 (.conv false .i64 t11),oM 6 t12]) (.seq (rg 7 [oP 7 (.mv (vI 1))]) (.seq (.block 0 (.seq (rg 13 [oM 14 t6,oP 15 (.bi .geq t14 (vI 240)),oM 13 t15]) (.cond t13 (.seq (rg 7 [oP 7 (.mv (vI 4))]) (rg 6 [oM 16 t6,oP 17 (.bi .and t16 (vI 7)),oM 6 t17])) (.seq (rg 18 [oM 19 t6,oP 20 (.bi .geq t19 (vI 224)),oM 18 t20]) (.cond t18 (.seq (rg 7 [oP 7 (.mv (vI 3))]) (rg 6 [oM 21 t6,oP 22 (.bi .and t21 (vI 15)),oM 6 t22])) (.seq (rg 23 [oM 24 t6,oP 25 (.bi .geq t24 (vI 192)),oM 23 t25]) (.cond t23 (.seq (rg 7 [oP 7 (.mv (vI 2))]) (rg 6 [oM 26 t6,oP 27 (.bi .and t26 (vI 31)),oM 6 t27])) .skip))))))) (.cn [0,1,6,7] (.sub 0 zbp_b0))))))
theorem zbp_chk:chk Tryd.prog 129 []=some (zbp_q.erase,[.tmp 4,.tmp 5],52):=by kernel_rfl
def qDh (s:BA) (at_ c size i:Int):Option ((Int × Int) ⊕ Int) :=
 bif decide (i<size) then (
  gd (0≤(6:Int)) <|
  gd (qAf (c*64)) <|
  gd (qAf (at_+i)) <|
  gd (0≤(at_+i)∧(at_+i)<s.size) <|
  gd (qAf (bAt s (at_+i))) <|
  gd (qAf (i+(1:Int))) <|
  some (.inl ((qBq .i64 (c*64) (qAw .i64 (bAt s (at_+i)) (63:Int))),(i+(1:Int)))))
 else (
  some (.inr c))
def zbp_p1 (s:BA) (at_ c size i:Int):Option Int :=
 qBj (fun x:(Int × Int)=>qDh s at_ x.1 size x.2) (c,i)
def qF0 (s:BA) (at_ c size:Int):Option (Int × Int) :=
 gd (qAf (at_+size)) <|
 bif decide ((s.size:Int)<(at_+size)) then (
  some (c,(1:Int)))
 else (
  (zbp_p1 s at_ c size (1:Int)).bind fun o2 =>
  some (o2,size))
def zbp_s (s:BA) (at_:Int):Option (Int × Int) :=
 gd (0≤at_∧at_<s.size) <|
 gd (qAf (bAt s at_)) <|
 bif decide ((240:Int)≤(bAt s at_)) then (
  (qF0 s at_ (qAw .i64 (bAt s at_) (7:Int)) (4:Int)).bind fun o3 =>
  some (o3.1,o3.2))
 else (
  bif decide ((224:Int)≤(bAt s at_)) then (
   (qF0 s at_ (qAw .i64 (bAt s at_) (15:Int)) (3:Int)).bind fun o4 =>
   some (o4.1,o4.2))
  else (
   bif decide ((192:Int)≤(bAt s at_)) then (
    (qF0 s at_ (qAw .i64 (bAt s at_) (31:Int)) (2:Int)).bind fun o5 =>
    some (o5.1,o5.2))
   else (
    (qF0 s at_ (bAt s at_) (1:Int)).bind fun o6 =>
    some (o6.1,o6.2))))
def zbp_G:Nat→Option CQ:=tblQ []
theorem zbp_Gok:∀f C,zbp_G f=some C→qAe Tryd.prog f C:=fun f C h=>by cases h
def zbp_d1:=(dQS (qAb (dSO 0 dS) (qAb (dSO 1 dZ) (qAb (dSO 6 dZ) (qAb (dSO 7 dZ) (qAb (dSO 8 dZ) dNil))))) dNil)
def zbp_l1:SubQ:=mkL zbp_d1 (fun x=>zbp_p1 x.1.1 x.1.2.1 x.1.2.2.1 x.1.2.2.2.1 x.1.2.2.2.2.1) fun x r R kn kx kr=>kx 1 ⟨[sL 6 (.vI r),sL 7 (.vI x.1.2.2.2.1)],[],[]⟩
def zbp_d0:=(dQS (qAb (dSO 0 dS) (qAb (dSO 1 dZ) (qAb (dSO 6 dZ) (qAb (dSO 7 dZ) dNil)))) dNil)
def zbp_l0:SubQ:=mkL zbp_d0 (fun x=>qF0 x.1.1 x.1.2.1 x.1.2.2.1 x.1.2.2.2.1) fun x r R kn kx kr=>kr ⟨[sL 4 (.vI r.1),sL 5 (.vI r.2)],[],[]⟩
def zbp_L:Nat→SubQ:=tblL [(1,zbp_l1),(0,zbp_l0)]
theorem zbp_sub1:qB0 zbp_L zbp_G 0 9 52 1 zbp_b1:=qAy (show zbp_L 1=zbp_l1 from by kernel_rfl) fun x R kn kx kr=>qA0 (step:=fun y=>qDh x.1.1 x.1.2.1 y.1 x.1.2.2.2.1 y.2) (enc:=fun (y:Int × Int)=>zbp_d1.e ((x.1.1,x.1.2.1,y.1,x.1.2.2.2.1,y.2,x.1.2.2.2.2.2),x.2)) (fun y=>by kernel_rfl) (fun y ki=>by simp only [qDh,-eq_self,qAc,qAg,obA,obS,slL,slR,qAd]; kernel_rfl) (x.1.2.2.1,x.1.2.2.2.2.1)
theorem zbp_sub0:qB0 zbp_L zbp_G 0 9 52 0 zbp_b0:=qAy (show zbp_L 0=zbp_l0 from by kernel_rfl) fun x R kn kx kr=>by
 simp only [qF0,-eq_self,qAc,qAg,obA,obS,slL,slR,qAd];kernel_rfl
theorem zbp_subs:qAq zbp_L zbp_G 0 9 52 zbp_q:=qAm (show qAr zbp_L zbp_G 0 9 52 [(0,zbp_b0),(1,zbp_b1)] from ⟨zbp_sub0,zbp_sub1,tV⟩)
def zbp_da:=(qAb (dVC (dCO dS)) (qAb (dVC (dCO dZ)) dNil))
def zbp_db:=(dNil:Dec Unit (List SB))
def zbp_c:CS:=mkC zbp_da zbp_db (fun x y=>zbp_s x.1 x.2.1) (fun x y r=>.tup [.o (.vI r.1),.o (.vI r.2)]) fun x y r=>[]
theorem zbp_val:qAn Tryd.prog 129 zbp_c:=qAp zbp_chk 9 zbp_Gok 0 (fun x=>Nat.le_of_ble_eq_true rfl) (fun y=>rfl) zbp_subs fun x y=>by
 simp only [zbp_s,-eq_self,qAc,qAg,obA,obS,slL,slR,qAd];kernel_rfl
def zbp_w:CQ:=qDf [] zbp_c
theorem zbp_ok:qAe Tryd.prog 129 zbp_w:=qAx zbp_val
def zbo_q:IQ:=(.seq (rg 4 [oP 4 (.mv (vC 0))]) (.seq (.block 0 (.seq (rg 5 [oM 6 t0,oP 7 (.bi .lss t6 (vI 10)),oM 5 t7]) (.cond t5 (.seq (rg 4 [oM 8 t0,oP 9 (.bi .add (vI 48) t8),oP 10 (.conv false .u8 t9),oM 4 t10]) (.cn [4] .ret)) (.seq (rg 11 [oM 12 t1,oM 11 t12]) (.cond t11 (.seq (rg 4 [oM 13 t0,oP 14 (.bi .add (vI 65) t13),oP 15 (.bi .sub t14 (vI 10)),oP 16 (.conv false .u8 t15),oM 4 t16]) (.cn [4] .ret)) .skip))))) (.seq (rg 4 [oM 17 t0,oP 18 (.bi .add (vI 97) t17),oP 19 (.bi .sub t18 (vI 10)),oP 20 (.conv false .u8 t19),oM 4 t20]) (.cn [4] .ret))))
theorem zbo_chk:chk Tryd.prog 158 []=some (zbo_q.erase,[.tmp 4],21):=by kernel_rfl
def zbo_s (n:Int) (great:Bool):Option Int :=
 bif decide (n<(10:Int)) then (
  gd (qAf ((48:Int)+n)) <|
  some (((48:Int)+n) % 256))
 else (
  bif great then (
   gd (qAf ((65:Int)+n)) <|
   gd (qAf (((65:Int)+n) - (10:Int))) <|
   some ((((65:Int)+n) - (10:Int)) % 256))
  else (
   gd (qAf ((97:Int)+n)) <|
   gd (qAf (((97:Int)+n) - (10:Int))) <|
   some ((((97:Int)+n) - (10:Int)) % 256)))
def zbo_G:Nat→Option CQ:=tblQ []
theorem zbo_Gok:∀f C,zbo_G f=some C→qAe Tryd.prog f C:=fun f C h=>by cases h
def zbo_L:Nat→SubQ:=tblL []
theorem zbo_subs:qAq zbo_L zbo_G 0 5 21 zbo_q:=qAm (show qAr zbo_L zbo_G 0 5 21 [] from tV)
def zbo_da:=(qAb (dVC (dCO dZ)) (qAb (dVC (dCO dB)) dNil))
def zbo_db:=(dNil:Dec Unit (List SB))
def zbo_c:CS:=mkC zbo_da zbo_db (fun x y=>zbo_s x.1 x.2.1) (fun x y r=>.c (.o (.val (.int .u8 r)))) fun x y r=>[]
theorem zbo_val:qAn Tryd.prog 158 zbo_c:=qAp zbo_chk 5 zbo_Gok 0 (fun x=>Nat.le_of_ble_eq_true rfl) (fun y=>rfl) zbo_subs fun x y=>by
 simp only [zbo_s,-eq_self,qAc,qAg,obA,obS,slL,slR,qAd];kernel_rfl
def zbo_w:CQ:=qDf [] zbo_c
theorem zbo_ok:qAe Tryd.prog 158 zbo_w:=qAx zbo_val
def zbt_q:IQ:=(.seq (rg 4 [oP 4 (.mv (.v (.slice none 0 0)))]) (.seq (rg 4 [oM 5 t0,oP 6 (.bi .shr t5 (.v (.int .u64 12))),oP 7 (.bi .and t6 (vI 15)),oM 8 t1,oP 9 (.call 158 [t7,t8]),oM 10 t0,oP 11 (.bi .shr t10 (.v (.int .u64 8))),oP 12 (.bi .and t11 (vI 15)),oM 13 t1,oP 14 (.call 158 [t12,t13]),oM 15 t0,oP 16 (.bi .shr t15 (.v (.int .u64 4))),oP 17 (.bi .and t16 (vI 15)),oM 18 t1,oP 19 (.call 158 [t17,t18]),oM 20 t0,oP 21 (.bi .and t20 (vI 15)),oM 22 t1,oP 23 (.call 158 [t21,t22]),oP 24 (.bslice 5 1 6 [.int .u8 0] [(0,(vC 92)),(1,(vC 117)),(2,t9),(3,t14),(4,t19),(5,t23)]),oM 4 t24]) (.canon [(4,none,.u8,5)] [4] .ret)))
theorem zbt_chk:chk Tryd.prog 130 []=some (zbt_q.erase,[.tmp 4],25):=by kernel_rfl
def zbt_s (u:Int) (great:Bool):Option ((List Int)) :=
 gd (0≤(12:Int)) <|
 (zbo_s (qAw .i64 (u / 4096) (15:Int)) great).bind fun r1 =>
 gd (0≤(8:Int)) <|
 (zbo_s (qAw .i64 (u / 256) (15:Int)) great).bind fun r2 =>
 gd (0≤(4:Int)) <|
 (zbo_s (qAw .i64 (u / 16) (15:Int)) great).bind fun r3 =>
 (zbo_s (qAw .i64 u (15:Int)) great).bind fun r4 =>
 some [(92:Int),(117:Int),r1,r2,r3,r4]
def zbt_G:Nat→Option CQ:=tblQ [(158,zbo_w)]
theorem zbt_Gok:∀f C,zbt_G f=some C→qAe Tryd.prog f C:=qAl ⟨zbo_ok,tV⟩
def zbt_L:Nat→SubQ:=tblL []
theorem zbt_subs:qAq zbt_L zbt_G 0 5 25 zbt_q:=qAm (show qAr zbt_L zbt_G 0 5 25 [] from tV)
def zbt_da:=(qAb (dVC (dCO dZ)) (qAb (dVC (dCO dB)) dNil))
def zbt_db:=(dNil:Dec Unit (List SB))
def zbt_c:CS:=mkC zbt_da zbt_db (fun x y=>zbt_s x.1 x.2.1) (fun x y r=>.c (.o (.own 0))) fun x y r=>[.row .u8 5 r]
theorem zbt_val:qAn Tryd.prog 130 zbt_c:=qAp zbt_chk 5 zbt_Gok 0 (fun x=>Nat.le_of_ble_eq_true rfl) (fun y=>rfl) zbt_subs fun x y=>by
 simp only [zbt_s,-eq_self,qAc,qAg,obA,obS,slL,slR,qAd];kernel_rfl
def zbt_w:CQ:=qC3 [] zbt_c
theorem zbt_ok:qAe Tryd.prog 130 zbt_w:=liftQ_valid zbt_val
def zbs_b1:IQ:=(.join [] [0,1,5,6,7] (.seq (rg 6 [oM 27 t6,oP 28 (.bi .add t27 (vI 1)),oM 6 t28]) (.seq (rg 10 [oM 30 t0,oM 31 t7,oP 32 (.call 129 [t30,t31]),oM 29 t32,oP 33 (.extract t29 0),oP 34 (.extract t29 1),oM 9 t33,oM 10 t34]) (.seq (rg 11 [oM 35 t0,oM 36 t7,oM 37 t7,oM 38 t10,oP 39 (.bi .add t37 t38),oP 40 (.sub none t35 (some t36) (some t39)),oM 11 t40]) (.seq (rg 7 [oM 41 t7,oM 42 t10,oP 43 (.bi .add t41 t42),oM 7 t43]) (.block 2 (.seq (rg 47 [oM 48 t8,oP 49 (.bi .eql t48 (vI 1)),oM 50 t49,oE 51 (.mv t8) 50,oE 52 (.bi .eql t51 (vI 2)) 50,oP 53 (.pick t50 vT t52),oM 54 t53,oF 55 (.mv t9) 54,oF 56 (.bi .lss t55 (vI 65536)) 54,oP 57 (.pick t54 t56 vF),oM 47 t57]) (.cond t47 (rg 5 [oM 58 t5,oM 59 t9,oM 60 t8,oP 61 (.bi .eql t60 (vI 2)),oP 62 (.call 130 [t59,t61]),oP 63 (.append 5 1 1 [.int .u8 0] t58 t62),oM 5 t63]) (.seq (rg 64 [oM 65 t8,oP 66 (.bi .eql t65 (vI 1)),oM 67 t66,oE 68 (.mv t8) 67,oE 69 (.bi .eql t68 (vI 2)) 67,oP 70 (.pick t67 vT t69),oM 64 t70]) (.cond t64 (.seq (rg 5 [oM 71 t5,oM 72 t9,oP 73 (.bi .sub t72 (vI 65536)),oP 74 (.bi .shr t73 (.v (.int .u64 10))),oP 75 (.bi .add (vI 55296) t74),oM 76 t8,oP 77 (.bi .eql t76 (vI 2)),oP 78 (.call 130 [t75,t77]),oP 79 (.append 5 1 1 [.int .u8 0] t71 t78),oM 5 t79]) (rg 5 [oM 80 t5,oM 81 t9,oP 82 (.bi .sub t81 (vI 65536)),oP 83 (.bi .and t82 (vI 1023)),oP 84 (.bi .add (vI 56320) t83),oM 85 t8,oP 86 (.bi .eql t85 (vI 2)),oP 87 (.call 130 [t84,t86]),oP 88 (.append 5 1 1 [.int .u8 0] t80 t87),oM 5 t88])) (.seq (rg 89 [oM 90 t8,oP 91 (.bi .eql t90 (vI 3)),oM 92 t91,oF 93 (.mv t9) 92,oF 94 (.bi .eql t93 (vI 47)) 92,oP 95 (.pick t92 t94 vF),oM 89 t95]) (.cond t89 (rg 5 [oM 96 t5,oP 97 (.bslice 5 1 2 [.int .u8 0] [(0,(vC 92)),(1,(vC 47))]),oP 98 (.append 5 1 1 [.int .u8 0] t96 t97),oM 5 t98]) (.seq (rg 99 [oM 100 t9,oP 101 (.bi .lss t100 (vI 32)),oM 102 t101,oE 103 (.mv t9) 102,oE 104 (.bi .eql t103 (vI 34)) 102,oP 105 (.pick t102 vT t104),oM 106 t105,oE 107 (.mv t9) 106,oE 108 (.bi .eql t107 (vI 92)) 106,oP 109 (.pick t106 vT t108),oM 99 t109]) (.cond t99 (rg 5 [oM 110 t5,oM 111 t9,oP 112 (.call 130 [t111,vF]),oP 113 (.append 5 1 1 [.int .u8 0] t110 t112),oM 5 t113]) (rg 5 [oM 44 t5,oM 45 t11,oP 46 (.ext (.appStr 5) [t44,t45]),oM 5 t46])))))))))))))))
def zbs_b0:IQ:=(.loop [0,1,5,6,7] (.seq (.seq (rg 16 [oM 13 t7,oM 14 t0,oP 15 (.lenS t14),oP 16 (.bi .lss t13 t15)]) (.cond t16 .skip (.cn [5] (.exit 0)))) (.block 1 (.seq (rg 8 [oP 8 (.mv (vI 0))]) (.seq (.seq (rg 19 [oM 17 t1,oP 18 (.len t17),oP 19 (.bi .gtr t18 (vI 0))]) (.cond t19 (rg 8 [oM 20 t1,oM 21 t6,oM 22 t1,oP 23 (.len t22),oP 24 (.bi .rem t21 t23),oP 25 (.iaddr 1 t20 t24),oP 26 (.load none t25),oM 8 t26]) .skip)) (.cn [0,1,5,6,7,8] (.sub 1 zbs_b1)))))))
def zbs_q:IQ:=(.seq (rg 4 [oP 4 (.mv (.v (.string ⟨#[]⟩)))]) (.seq (rg 5 [oP 12 (.bslice 5 1 1 [.int .u8 0] [(0,(vC 34))]),oM 5 t12]) (.seq (rg 6 [oP 6 (.mv (vI 0))]) (.seq (.seq (rg 7 [oP 7 (.mv (vI 0))]) (.block 0 (.cn [0,1,5,6,7] (.sub 0 zbs_b0)))) (.seq (rg 4 [oM 114 t5,oP 115 (.bslice 5 1 1 [.int .u8 0] [(0,(vC 34))]),oP 116 (.append 5 1 1 [.int .u8 0] t114 t115),oP 117 (.ext .toStr [t116]),oM 4 t117]) (.cn [4] .ret))))))
theorem zbs_chk:chk Tryd.prog 90 []=some (zbs_q.erase,[.tmp 4],118):=by kernel_rfl
def zbs_p1 (s:BA) (n at_ how:Int) (b:List Int):Option (Int × Int × (List Int)) :=
 gd (qAf (n+(1:Int))) <|
 (zbp_s s at_).bind fun r19 =>
 gd (qAf (at_+r19.2)) <|
 gd (0≤at_∧at_≤(at_+r19.2)∧(at_+r19.2)≤s.size) <|
 gd (qAf (at_+r19.2)) <|
 bif (((decide (how=(1:Int))) || (decide (how=(2:Int)))) && (decide (r19.1<(65536:Int)))) then (
  (zbt_s r19.1 (decide (how=(2:Int)))).bind fun r20 =>
  gd (b.length+r20.length≤9223372036854775807∧(b.length+r20.length)*1≤140737488355328) <|
  some ((n+(1:Int)),(at_+r19.2),(b++r20)))
 else (
  bif ((decide (how=(1:Int))) || (decide (how=(2:Int)))) then (
   gd (qAf (r19.1 - (65536:Int))) <|
   gd (0≤(10:Int)) <|
   gd (qAf ((55296:Int)+((r19.1 - (65536:Int)) / 1024))) <|
   (zbt_s ((55296:Int)+((r19.1 - (65536:Int)) / 1024)) (decide (how=(2:Int)))).bind fun r21 =>
   gd (b.length+r21.length≤9223372036854775807∧(b.length+r21.length)*1≤140737488355328) <|
   gd (qAf (r19.1 - (65536:Int))) <|
   gd (qAf ((56320:Int)+(qAw .i64 (r19.1 - (65536:Int)) (1023:Int)))) <|
   (zbt_s ((56320:Int)+(qAw .i64 (r19.1 - (65536:Int)) (1023:Int))) (decide (how=(2:Int)))).bind fun r22 =>
   gd ((b++r21).length+r22.length≤9223372036854775807∧((b++r21).length+r22.length)*1≤140737488355328) <|
   some ((n+(1:Int)),(at_+r19.2),((b++r21)++r22)))
  else (
   bif ((decide (how=(3:Int))) && (decide (r19.1=(47:Int)))) then (
    gd (b.length+([(92:Int),(47:Int)]:List Int).length≤9223372036854775807∧(b.length+([(92:Int),(47:Int)]:List Int).length)*1≤140737488355328) <|
    some ((n+(1:Int)),(at_+r19.2),(b++[(92:Int),(47:Int)])))
   else (
    bif (((decide (r19.1<(32:Int))) || (decide (r19.1=(34:Int)))) || (decide (r19.1=(92:Int)))) then (
     (zbt_s r19.1 false).bind fun r23 =>
     gd (b.length+r23.length≤9223372036854775807∧(b.length+r23.length)*1≤140737488355328) <|
     some ((n+(1:Int)),(at_+r19.2),(b++r23)))
    else (
     gd (b.length+(s.extract (Int.toNat at_) (Int.toNat (at_+r19.2))).size≤140737488355328) <|
     some ((n+(1:Int)),(at_+r19.2),(b++(qAi (s.extract (Int.toNat at_) (Int.toNat (at_+r19.2))))))))))
def qDl (s:BA) (n at_:Int) (row b:List Int):Option ((Int × Int × (List Int)) ⊕ ((List Int))) :=
 bif decide (at_<(s.size:Int)) then (
  bif decide ((0:Int)<(row.length:Int)) then (
   gd (0≤n∧1≤(row.length:Int)) <|
   gd (0≤(n % (row.length:Int))∧(n % (row.length:Int))<row.length) <|
   gd ((Int.toNat (n % (row.length:Int)))<row.length) <|
   (zbs_p1 s n at_ (row.getD (Int.toNat (n % (row.length:Int))) (ET.dft .i64)) b).bind fun o24 =>
   some (.inl (o24.1,o24.2.1,o24.2.2)))
  else (
   (zbs_p1 s n at_ (0:Int) b).bind fun o25 =>
   some (.inl (o25.1,o25.2.1,o25.2.2))))
 else (
  some (.inr b))
def zbs_p0 (s:BA) (n at_:Int) (row b:List Int):Option ((List Int)) :=
 qBj (fun x:(Int × Int × (List Int))=>qDl s x.1 x.2.1 row x.2.2) (n,at_,b)
def zbs_s (s:BA) (row:(List Int)):Option BA :=
 (zbs_p0 s (0:Int) (0:Int) row [(34:Int)]).bind fun o26 =>
 gd (o26.length+([(34:Int)]:List Int).length≤9223372036854775807∧(o26.length+([(34:Int)]:List Int).length)*1≤140737488355328) <|
 some (qA3 (o26++[(34:Int)]))
def zbs_G:Nat→Option CQ:=tblQ [(129,zbp_w),(130,zbt_w)]
theorem zbs_Gok:∀f C,zbs_G f=some C→qAe Tryd.prog f C:=qAl ⟨zbp_ok,zbt_ok,tV⟩
def zbs_d1:=(dQS (qAb (dSO 0 dS) (qAb (dSO 1 (dO 0)) (qAb (dSO 5 (dO 1)) (qAb (dSO 6 dZ) (qAb (dSO 7 dZ) (qAb (dSO 8 dZ) dNil)))))) (qAb (qBn .i64) (qAb (dRow .u8 5) dNil)))
def zbs_l1:SubQ:=mkL zbs_d1 (fun x=>zbs_p1 x.1.1 x.1.2.2.2.1 x.1.2.2.2.2.1 x.1.2.2.2.2.2.1 x.2.2.1) fun x r R kn kx kr=>kn ⟨[sL 0 (.vS x.1.1),sL 1 (.own 0),sL 5 (.own 1),sL 6 (.vI r.1),sL 7 (.vI r.2.1)],[],[.view .i64 x.2.1,.row .u8 5 r.2.2]⟩
def zbs_d0:=(dQS (qAb (dSO 0 dS) (qAb (dSO 1 (dO 0)) (qAb (dSO 5 (dO 1)) (qAb (dSO 6 dZ) (qAb (dSO 7 dZ) dNil))))) (qAb (qBn .i64) (qAb (dRow .u8 5) dNil)))
def zbs_l0:SubQ:=mkL zbs_d0 (fun x=>zbs_p0 x.1.1 x.1.2.2.2.1 x.1.2.2.2.2.1 x.2.1 x.2.2.1) fun x r R kn kx kr=>kx 0 ⟨[sL 5 (.own 1)],[],[.view .i64 x.2.1,.row .u8 5 r]⟩
def zbs_L:Nat→SubQ:=tblL [(1,zbs_l1),(0,zbs_l0)]
theorem zbs_sub1:qB0 zbs_L zbs_G 1 12 118 1 zbs_b1:=qAy (show zbs_L 1=zbs_l1 from by kernel_rfl) fun x R kn kx kr=>by
 simp only [zbs_p1,-eq_self,qAc,qAg,obA,obS,slL,slR,qAd];kernel_rfl
theorem zbs_sub0:qB0 zbs_L zbs_G 1 12 118 0 zbs_b0:=qAy (show zbs_L 0=zbs_l0 from by kernel_rfl) fun x R kn kx kr=>qA0 (step:=fun y=>qDl x.1.1 y.1 y.2.1 x.2.1 y.2.2) (enc:=fun (y:Int × Int × (List Int))=>zbs_d0.e ((x.1.1,x.1.2.1,x.1.2.2.1,y.1,y.2.1,x.1.2.2.2.2.2),(x.2.1,y.2.2,x.2.2.2))) (fun y=>by kernel_rfl) (fun y ki=>by simp only [qDl,-eq_self,qAc,qAg,obA,obS,slL,slR,qAd]; kernel_rfl) (x.1.2.2.2.1,x.1.2.2.2.2.1,x.2.2.1)
theorem zbs_subs:qAq zbs_L zbs_G 1 12 118 zbs_q:=qAm (show qAr zbs_L zbs_G 1 12 118 [(0,zbs_b0),(1,zbs_b1)] from ⟨zbs_sub0,zbs_sub1,tV⟩)
def zbs_da:=(qAb (dVC (dCO dS)) (qAb (dVC (dCO (dO 0))) dNil))
def zbs_db:=(qAb (qBn .i64) dNil)
def zbs_c:CS:=mkC zbs_da zbs_db (fun x y=>zbs_s x.1 y.1) (fun x y r=>.c (.o (.vS r))) fun x y r=>[.view .i64 y.1]
theorem zbs_val:qAn Tryd.prog 90 zbs_c:=qAp zbs_chk 12 zbs_Gok 1 (fun x=>Nat.le_of_ble_eq_true rfl) (fun y=>rfl) zbs_subs fun x y=>by
 simp only [zbs_s,-eq_self,qAc,qAg,obA,obS,slL,slR,qAd];kernel_rfl
def zbs_w:CQ:=qB4 [(1,none,some (.i64,3))] (qDf [false] zbs_c)
theorem zbs_ok:qAe Tryd.prog 90 zbs_w:=qC0 zbs_val
def zbn_q:IQ:=(.seq (rg 4 [oP 4 (.mv (.v (.string ⟨#[]⟩)))]) (.seq (.seq (rg 7 [oM 5 t0,oP 6 (.len t5),oP 7 (.bi .eql t6 (vI 0))]) (.cond t7 (.seq (rg 4 [oP 4 (.mv (.v (.string ⟨#[]⟩)))]) (.cn [4] .ret)) .skip)) (.seq (.seq (rg 14 [oM 8 t0,oM 9 t1,oM 10 t0,oP 11 (.len t10),oP 12 (.bi .rem t9 t11),oP 13 (.iaddr 1 t8 t12),oP 14 (.load none t13)]) (.block 0 (.seq (rg 15 [oP 16 (.bi .eql t14 (vI 4)),oM 15 t16]) (.cond t15 (.seq (rg 4 [oP 4 (.mv (.v (.string ⟨#[32]⟩)))]) (.cn [4] .ret)) (.seq (rg 17 [oP 18 (.bi .eql t14 (vI 5)),oM 17 t18]) (.cond t17 (.seq (rg 4 [oP 4 (.mv (.v (.string ⟨#[10,9]⟩)))]) (.cn [4] .ret)) (.seq (rg 19 [oP 20 (.bi .eql t14 (vI 6)),oM 19 t20]) (.cond t19 (.seq (rg 4 [oP 4 (.mv (.v (.string ⟨#[13,32]⟩)))]) (.cn [4] .ret)) .skip)))))))) (.seq (rg 4 [oP 4 (.mv (.v (.string ⟨#[]⟩)))]) (.cn [4] .ret)))))
theorem zbn_chk:chk Tryd.prog 91 []=some (zbn_q.erase,[.tmp 4],21):=by kernel_rfl
def zbn_s (row:(List Int)) (i:Int):Option BA :=
 bif decide ((row.length:Int)=(0:Int)) then (
  some (⟨#[]⟩:BA))
 else (
  gd (0≤i∧1≤(row.length:Int)) <|
  gd (0≤(i % (row.length:Int))∧(i % (row.length:Int))<row.length) <|
  gd ((Int.toNat (i % (row.length:Int)))<row.length) <|
  bif decide ((row.getD (Int.toNat (i % (row.length:Int))) (ET.dft .i64))=(4:Int)) then (
   some (⟨#[32]⟩:BA))
  else (
   bif decide ((row.getD (Int.toNat (i % (row.length:Int))) (ET.dft .i64))=(5:Int)) then (
    some (⟨#[10,9]⟩:BA))
   else (
    bif decide ((row.getD (Int.toNat (i % (row.length:Int))) (ET.dft .i64))=(6:Int)) then (
     some (⟨#[13,32]⟩:BA))
    else (
     some (⟨#[]⟩:BA)))))
def zbn_G:Nat→Option CQ:=tblQ []
theorem zbn_Gok:∀f C,zbn_G f=some C→qAe Tryd.prog f C:=fun f C h=>by cases h
def zbn_L:Nat→SubQ:=tblL []
theorem zbn_subs:qAq zbn_L zbn_G 1 15 21 zbn_q:=qAm (show qAr zbn_L zbn_G 1 15 21 [] from tV)
def zbn_da:=(qAb (dVC (dCO (dO 0))) (qAb (dVC (dCO dZ)) dNil))
def zbn_db:=(qAb (qBn .i64) dNil)
def zbn_c:CS:=mkC zbn_da zbn_db (fun x y=>zbn_s y.1 x.2.1) (fun x y r=>.c (.o (.vS r))) fun x y r=>[.view .i64 y.1]
theorem zbn_val:qAn Tryd.prog 91 zbn_c:=qAp zbn_chk 15 zbn_Gok 1 (fun x=>Nat.le_of_ble_eq_true rfl) (fun y=>rfl) zbn_subs fun x y=>by
 simp only [zbn_s,-eq_self,qAc,qAg,obA,obS,slL,slR,qAd];kernel_rfl
def zbn_w:CQ:=qB4 [(0,none,some (.i64,3))] (qDf [false] zbn_c)
theorem zbn_ok:qAe Tryd.prog 91 zbn_w:=qC0 zbn_val
def zbq_da:=(qAb (dVC (dCO (dO 0))) (qAb (dVC (dCO dZ)) (qAb (dVC (dCO (dO 1))) dNil)))
def zbq_db:=(qAb (qBn .node) (qAb (qBn .i64) dNil))
def zbq_cs (self:(List Eng.Node)→Int→(List Int)→Option BA):CS:=mkC zbq_da zbq_db (fun x y=>self y.1 x.2.1 y.2.1) (fun x y r=>.c (.o (.vS r))) fun x y r=>[.view .node y.1,.view .i64 y.2.1]
def zbq_ws (self:(List Eng.Node)→Int→(List Int)→Option BA):CQ:=qB4 [(0,none,some (.node,36)),(2,none,some (.i64,3))] (qDf [false,false] (zbq_cs self))
def zbq_b2:IQ:=(.join [] [0,1,2,7,8,9,10] (.seq (.seq (rg 38 [oP 36 (.faddr 0 t7),oP 37 (.load none t36),oP 38 (.bi .eql t37 (vI 7))]) (.cond t38 (rg 8 [oM 39 t8,oM 40 t0,oM 41 t9,oM 42 t10,oP 43 (.iaddr 1 t41 t42),oP 44 (.load none t43),oP 45 (.iaddr 6 t40 t44),oP 46 (.faddr 1 t45),oP 47 (.load none t46),oM 48 t2,oP 49 (.call 90 [t47,t48]),oP 50 (.bi .add t39 t49),oM 51 t2,oM 52 t1,oP 53 (.call 91 [t51,t52]),oP 54 (.bi .add t50 t53),oP 55 (.bi .add t54 (.v (.string ⟨#[58]⟩))),oM 56 t2,oM 57 t10,oP 58 (.call 91 [t56,t57]),oP 59 (.bi .add t55 t58),oM 8 t59]) .skip)) (rg 8 [oM 60 t8,oM 61 t0,oM 62 t9,oM 63 t10,oP 64 (.iaddr 1 t62 t63),oP 65 (.load none t64),oM 66 t2,oP 67 (.call 48 [t61,t65,t66]),oP 68 (.bi .add t60 t67),oM 8 t68])))
def zbq_b1:IQ:=(.loop [0,1,2,7,8,9,10] (.seq (.seq (rg 23 [oM 20 t10,oM 21 t9,oP 22 (.len t21),oP 23 (.bi .lss t20 t22)]) (.cond t23 .skip (.cn [1,2,7,8] (.exit 1)))) (.seq (.block 2 (.seq (.seq (rg 27 [oM 26 t10,oP 27 (.bi .gtr t26 (vI 0))]) (.cond t27 (rg 8 [oM 28 t8,oP 29 (.bi .add t28 (.v (.string ⟨#[44]⟩))),oM 30 t2,oM 31 t10,oM 32 t1,oP 33 (.bi .add t31 t32),oP 34 (.call 91 [t30,t33]),oP 35 (.bi .add t29 t34),oM 8 t35]) .skip)) (.cn [0,1,2,7,8,9,10] (.sub 2 zbq_b2)))) (rg 10 [oM 24 t10,oP 25 (.bi .add t24 (vI 1)),oM 10 t25]))))
def zbq_b0:IQ:=(.seq (rg 6 [oM 104 t2,oM 105 t1,oP 106 (.bi .add t105 (vI 2)),oP 107 (.call 91 [t104,t106]),oM 108 t8,oP 109 (.bi .add t107 t108),oM 110 t2,oM 111 t1,oP 112 (.bi .add t111 (vI 3)),oP 113 (.call 91 [t110,t112]),oP 114 (.bi .add t109 t113),oM 6 t114]) (.cn [6] .ret))
def zbq_q:IQ:=(.seq (rg 6 [oP 6 (.mv (.v (.string ⟨#[]⟩)))]) (.seq (rg 0 [oM 11 t0,oM 12 t1,oP 13 (.iaddr 6 t11 t12),oP 14 (.load (some 6) t13),oP 7 (.alloc 36 [.int .i64 0,.string ⟨#[]⟩,.string ⟨#[]⟩,.bool false,.int .i64 0,.int .i64 0]),oN (.store 6 t7 t14)]) (.seq (rg 8 [oP 8 (.mv (.v (.string ⟨#[]⟩)))]) (.seq (.seq (rg 16 [oP 15 (.faddr 0 t7),oP 16 (.load none t15)]) (.block 0 (.seq (rg 88 [oP 89 (.bi .eql t16 (vI 1)),oM 88 t89]) (.cond t88 (rg 8 [oP 8 (.mv (.v (.string ⟨#[110,117,108,108]⟩)))]) (.seq (rg 90 [oP 91 (.bi .eql t16 (vI 2)),oM 90 t91]) (.cond t90 (rg 8 [oP 8 (.mv (.v (.string ⟨#[102,97,108,115,101]⟩)))]) (.seq (rg 92 [oP 93 (.bi .eql t16 (vI 3)),oM 92 t93]) (.cond t92 (rg 8 [oP 8 (.mv (.v (.string ⟨#[116,114,117,101]⟩)))]) (.seq (rg 94 [oP 95 (.bi .eql t16 (vI 4)),oM 94 t95]) (.cond t94 (rg 8 [oP 96 (.faddr 2 t7),oP 97 (.load none t96),oM 8 t97]) (.seq (rg 98 [oP 99 (.bi .eql t16 (vI 5)),oM 98 t99]) (.cond t98 (rg 8 [oP 100 (.faddr 2 t7),oP 101 (.load none t100),oM 102 t2,oP 103 (.call 90 [t101,t102]),oM 8 t103]) (.seq (rg 9 [oM 17 t0,oM 18 t1,oP 19 (.call 25 [t17,t18]),oM 9 t19]) (.seq (.seq (rg 10 [oP 10 (.mv (vI 0))]) (.block 1 (.cn [0,1,2,7,8,9,10] (.sub 1 zbq_b1)))) (.seq (rg 71 [oP 69 (.faddr 0 t7),oP 70 (.load none t69),oP 71 (.bi .eql t70 (vI 7))]) (.cond t71 (rg 8 [oM 72 t2,oM 73 t1,oP 74 (.bi .add t73 (vI 1)),oP 75 (.call 91 [t72,t74]),oP 76 (.bi .add (.v (.string ⟨#[123]⟩)) t75),oM 77 t8,oP 78 (.bi .add t76 t77),oP 79 (.bi .add t78 (.v (.string ⟨#[125]⟩))),oM 8 t79]) (rg 8 [oM 80 t2,oM 81 t1,oP 82 (.bi .add t81 (vI 1)),oP 83 (.call 91 [t80,t82]),oP 84 (.bi .add (.v (.string ⟨#[91]⟩)) t83),oM 85 t8,oP 86 (.bi .add t84 t85),oP 87 (.bi .add t86 (.v (.string ⟨#[93]⟩))),oM 8 t87]))))))))))))))))) (.cn [1,2,8] (.sub 0 zbq_b0))))))
theorem zbq_chk:chk Tryd.prog 48 []=some (zbq_q.erase,[.tmp 6],115):=by kernel_rfl
def qG8 (self:(List Eng.Node)→Int→(List Int)→Option BA) (at_:Int) (s:BA) (row:List Int):Option BA :=
 gd (qAf (at_+(2:Int))) <|
 (zbn_s row (at_+(2:Int))).bind fun r33 =>
 gd (r33.size+s.size≤9223372036854775807) <|
 gd (qAf (at_+(3:Int))) <|
 (zbn_s row (at_+(3:Int))).bind fun r34 =>
 gd ((r33++s).size+r34.size≤9223372036854775807) <|
 some ((r33++s)++r34)
def zbq_p2 (self:(List Eng.Node)→Int→(List Int)→Option BA) (at_:Int) (s:BA) (i:Int) (v:List Eng.Node) (row:List Int) (qHm:Int) (l:List Int):Option BA :=
 bif decide (qHm=(7:Int)) then (
  gd (0≤i∧i<l.length) <|
  gd ((Int.toNat i)<l.length) <|
  gd (0≤(l.getD (Int.toNat i) (ET.dft .i64))∧(l.getD (Int.toNat i) (ET.dft .i64))<v.length) <|
  gd ((Int.toNat (l.getD (Int.toNat i) (ET.dft .i64)))<v.length) <|
  gd ((Int.toNat (l.getD (Int.toNat i) (ET.dft .i64)))<v.length) <|
  (zbs_s ((v.getD (Int.toNat (l.getD (Int.toNat i) (ET.dft .i64))) (ET.dft .node)).key) row).bind fun r43 =>
  gd (s.size+r43.size≤9223372036854775807) <|
  (zbn_s row at_).bind fun r44 =>
  gd ((s++r43).size+r44.size≤9223372036854775807) <|
  gd (((s++r43)++r44).size+(⟨#[58]⟩:BA).size≤9223372036854775807) <|
  (zbn_s row i).bind fun r45 =>
  gd ((((s++r43)++r44)++(⟨#[58]⟩:BA)).size+r45.size≤9223372036854775807) <|
  gd (0≤i∧i<l.length) <|
  gd ((Int.toNat i)<l.length) <|
  (self v (l.getD (Int.toNat i) (ET.dft .i64)) row).bind fun r46 =>
  gd (((((s++r43)++r44)++(⟨#[58]⟩:BA))++r45).size+r46.size≤9223372036854775807) <|
  some (((((s++r43)++r44)++(⟨#[58]⟩:BA))++r45)++r46))
 else (
  gd (0≤i∧i<l.length) <|
  gd ((Int.toNat i)<l.length) <|
  (self v (l.getD (Int.toNat i) (ET.dft .i64)) row).bind fun r47 =>
  gd (s.size+r47.size≤9223372036854775807) <|
  some (s++r47))
def qCt (self:(List Eng.Node)→Int→(List Int)→Option BA) (at_:Int) (s:BA) (i:Int) (v:List Eng.Node) (row:List Int) (qHm:Int) (l:List Int):Option ((BA × Int) ⊕ BA) :=
 bif decide (i<(l.length:Int)) then (
  bif decide ((0:Int)<i) then (
   gd (s.size+(⟨#[44]⟩:BA).size≤9223372036854775807) <|
   gd (qAf (i+at_)) <|
   (zbn_s row (i+at_)).bind fun r42 =>
   gd ((s++(⟨#[44]⟩:BA)).size+r42.size≤9223372036854775807) <|
   (zbq_p2 self at_ ((s++(⟨#[44]⟩:BA))++r42) i v row qHm l).bind fun o48 =>
   gd (qAf (i+(1:Int))) <|
   some (.inl (o48,(i+(1:Int)))))
  else (
   (zbq_p2 self at_ s i v row qHm l).bind fun o49 =>
   gd (qAf (i+(1:Int))) <|
   some (.inl (o49,(i+(1:Int))))))
 else (
  some (.inr s))
def zbq_p1 (self:(List Eng.Node)→Int→(List Int)→Option BA) (at_:Int) (s:BA) (i:Int) (v:List Eng.Node) (row:List Int) (qHm:Int) (l:List Int):Option BA :=
 qBj (fun x:(BA × Int)=>qCt self at_ x.1 x.2 v row qHm l) (s,i)
def zbq_t (self:(List Eng.Node)→Int→(List Int)→Option BA) (v:(List Eng.Node)) (at_:Int) (row:(List Int)):Option BA :=
 gd (0≤at_∧at_<v.length) <|
 gd ((Int.toNat at_)<v.length) <|
 bif decide (((v.getD (Int.toNat at_) (ET.dft .node)).kind)=(1:Int)) then (
  (qG8 self at_ (⟨#[110,117,108,108]⟩:BA) row).bind fun o35 =>
  some o35)
 else (
  bif decide (((v.getD (Int.toNat at_) (ET.dft .node)).kind)=(2:Int)) then (
   (qG8 self at_ (⟨#[102,97,108,115,101]⟩:BA) row).bind fun o36 =>
   some o36)
  else (
   bif decide (((v.getD (Int.toNat at_) (ET.dft .node)).kind)=(3:Int)) then (
    (qG8 self at_ (⟨#[116,114,117,101]⟩:BA) row).bind fun o37 =>
    some o37)
   else (
    bif decide (((v.getD (Int.toNat at_) (ET.dft .node)).kind)=(4:Int)) then (
     (qG8 self at_ ((v.getD (Int.toNat at_) (ET.dft .node)).text) row).bind fun o38 =>
     some o38)
    else (
     bif decide (((v.getD (Int.toNat at_) (ET.dft .node)).kind)=(5:Int)) then (
      (zbs_s ((v.getD (Int.toNat at_) (ET.dft .node)).text) row).bind fun r39 =>
      (qG8 self at_ r39 row).bind fun o40 =>
      some o40)
     else (
      (zai_s v at_).bind fun r41 =>
      (zbq_p1 self at_ (⟨#[]⟩:BA) (0:Int) v row ((v.getD (Int.toNat at_) (ET.dft .node)).kind) r41).bind fun o50 =>
      bif decide (((v.getD (Int.toNat at_) (ET.dft .node)).kind)=(7:Int)) then (
       gd (qAf (at_+(1:Int))) <|
       (zbn_s row (at_+(1:Int))).bind fun r51 =>
       gd ((⟨#[123]⟩:BA).size+r51.size≤9223372036854775807) <|
       gd (((⟨#[123]⟩:BA)++r51).size+o50.size≤9223372036854775807) <|
       gd ((((⟨#[123]⟩:BA)++r51)++o50).size+(⟨#[125]⟩:BA).size≤9223372036854775807) <|
       (qG8 self at_ ((((⟨#[123]⟩:BA)++r51)++o50)++(⟨#[125]⟩:BA)) row).bind fun o52 =>
       some o52)
      else (
       gd (qAf (at_+(1:Int))) <|
       (zbn_s row (at_+(1:Int))).bind fun r53 =>
       gd ((⟨#[91]⟩:BA).size+r53.size≤9223372036854775807) <|
       gd (((⟨#[91]⟩:BA)++r53).size+o50.size≤9223372036854775807) <|
       gd ((((⟨#[91]⟩:BA)++r53)++o50).size+(⟨#[93]⟩:BA).size≤9223372036854775807) <|
       (qG8 self at_ ((((⟨#[91]⟩:BA)++r53)++o50)++(⟨#[93]⟩:BA)) row).bind fun o54 =>
       some o54))))))
def zbq_G (self:(List Eng.Node)→Int→(List Int)→Option BA):Nat→Option CQ:=tblQ [(91,zbn_w),(90,zbs_w),(25,zai_w),(48,zbq_ws self)]
theorem zbq_Gok (self:(List Eng.Node)→Int→(List Int)→Option BA) (hself:qAe Tryd.prog 48 (zbq_ws self)):∀f C,(zbq_G self) f=some C→qAe Tryd.prog f C:=qAl ⟨zbn_ok,zbs_ok,zai_ok,hself,tV⟩
def zbq_d0:=(dQS (qAb (dSO 1 dZ) (qAb (dSO 2 (dO 1)) (qAb (dSO 8 dS) dNil))) (qAb (qBn .node) (qAb (qBn .i64) dNil)))
def zbq_l0 (self:(List Eng.Node)→Int→(List Int)→Option BA):SubQ:=mkL zbq_d0 (fun x=>qG8 self x.1.1 x.1.2.2.1 x.2.2.1) fun x r R kn kx kr=>kr ⟨[sL 6 (.vS r)],[],[.view .node x.2.1,.view .i64 x.2.2.1]⟩
def zbq_d2:=(dQS (qAb (dSO 0 (dO 0)) (qAb (dSO 1 dZ) (qAb (dSO 2 (dO 1)) (qAb (dSO 7 (dH 2 0)) (qAb (dSO 8 dS) (qAb (dSO 9 (dO 3)) (qAb (dSO 10 dZ) dNil))))))) (qAb (qBn .node) (qAb (qBn .i64) (qAb zDJW1 (qAb (dRow .i64 3) dNil)))))
def zbq_l2 (self:(List Eng.Node)→Int→(List Int)→Option BA):SubQ:=mkL zbq_d2 (fun x=>zbq_p2 self x.1.2.1 x.1.2.2.2.2.1 x.1.2.2.2.2.2.2.1 x.2.1 x.2.2.1 x.2.2.2.1.1 x.2.2.2.2.1) fun x r R kn kx kr=>kn ⟨[sL 0 (.own 0),sL 1 (.vI x.1.2.1),sL 2 (.own 1),sL 7 (.hd 2 0),sL 8 (.vS r),sL 9 (.own 3),sL 10 (.vI x.1.2.2.2.2.2.2.1)],[],[.view .node x.2.1,.view .i64 x.2.2.1,.cells 36 [.vI x.2.2.2.1.1,.vS x.2.2.2.1.2.1,.vS x.2.2.2.1.2.2.1,.vB x.2.2.2.1.2.2.2.1,.vI x.2.2.2.1.2.2.2.2.1,.vI x.2.2.2.1.2.2.2.2.2.1],.row .i64 3 x.2.2.2.2.1]⟩
def zbq_d1:=(dQS (qAb (dSO 0 (dO 0)) (qAb (dSO 1 dZ) (qAb (dSO 2 (dO 1)) (qAb (dSO 7 (dH 2 0)) (qAb (dSO 8 dS) (qAb (dSO 9 (dO 3)) (qAb (dSO 10 dZ) dNil))))))) (qAb (qBn .node) (qAb (qBn .i64) (qAb zDJW1 (qAb (dRow .i64 3) dNil)))))
def zbq_l1 (self:(List Eng.Node)→Int→(List Int)→Option BA):SubQ:=mkL zbq_d1 (fun x=>zbq_p1 self x.1.2.1 x.1.2.2.2.2.1 x.1.2.2.2.2.2.2.1 x.2.1 x.2.2.1 x.2.2.2.1.1 x.2.2.2.2.1) fun x r R kn kx kr=>kx 1 ⟨[sL 1 (.vI x.1.2.1),sL 2 (.own 1),sL 7 (.hd 2 0),sL 8 (.vS r)],[],[.view .node x.2.1,.view .i64 x.2.2.1,.cells 36 [.vI x.2.2.2.1.1,.vS x.2.2.2.1.2.1,.vS x.2.2.2.1.2.2.1,.vB x.2.2.2.1.2.2.2.1,.vI x.2.2.2.1.2.2.2.2.1,.vI x.2.2.2.1.2.2.2.2.2.1]]⟩
def zbq_L (self:(List Eng.Node)→Int→(List Int)→Option BA):Nat→SubQ:=tblL [(0,zbq_l0 self),(2,zbq_l2 self),(1,zbq_l1 self)]
theorem zbq_sub0 (self:(List Eng.Node)→Int→(List Int)→Option BA):qB0 (zbq_L self) (zbq_G self) 2 17 115 0 zbq_b0:=qAy (show (zbq_L self) 0=(zbq_l0 self) from by kernel_rfl) fun x R kn kx kr=>by
 simp only [qG8,-eq_self,qAc,qAg,obA,obS,slL,slR,qAd];kernel_rfl
theorem zbq_sub2 (self:(List Eng.Node)→Int→(List Int)→Option BA):qB0 (zbq_L self) (zbq_G self) 2 17 115 2 zbq_b2:=qAy (show (zbq_L self) 2=(zbq_l2 self) from by kernel_rfl) fun x R kn kx kr=>by
 simp only [zbq_p2,-eq_self,qAc,qAg,obA,obS,slL,slR,qAd];kernel_rfl
theorem zbq_sub1 (self:(List Eng.Node)→Int→(List Int)→Option BA):qB0 (zbq_L self) (zbq_G self) 2 17 115 1 zbq_b1:=qAy (show (zbq_L self) 1=(zbq_l1 self) from by kernel_rfl) fun x R kn kx kr=>qA0 (step:=fun y=>qCt self x.1.2.1 y.1 y.2 x.2.1 x.2.2.1 x.2.2.2.1.1 x.2.2.2.2.1) (enc:=fun (y:BA × Int)=>zbq_d1.e ((x.1.1,x.1.2.1,x.1.2.2.1,x.1.2.2.2.1,y.1,x.1.2.2.2.2.2.1,y.2,x.1.2.2.2.2.2.2.2),x.2)) (fun y=>by kernel_rfl) (fun y ki=>by simp only [qCt,-eq_self,qAc,qAg,obA,obS,slL,slR,qAd]; kernel_rfl) (x.1.2.2.2.2.1,x.1.2.2.2.2.2.2.1)
theorem zbq_subs (self:(List Eng.Node)→Int→(List Int)→Option BA):qAq (zbq_L self) (zbq_G self) 2 17 115 zbq_q:=qAm (show qAr (zbq_L self) (zbq_G self) 2 17 115 [(1,zbq_b1),(2,zbq_b2),(0,zbq_b0)] from ⟨(zbq_sub1 self),(zbq_sub2 self),(zbq_sub0 self),tV⟩)
theorem zbq_val_t (self:(List Eng.Node)→Int→(List Int)→Option BA) (hself:qAe Tryd.prog 48 (zbq_ws self)):qAn Tryd.prog 48 (zbq_cs (zbq_t self)):=qAp zbq_chk 17 (zbq_Gok self hself) 2 (fun x=>Nat.le_of_ble_eq_true rfl) (fun y=>rfl) (zbq_subs self) fun x y=>by
 simp only [zbq_t,-eq_self,qAc,qAg,obA,obS,slL,slR,qAd];kernel_rfl
def zbq_n:Nat→(List Eng.Node)→Int→(List Int)→Option BA
 | 0=>fun _ _ _=>none
 | n+1=>zbq_t (zbq_n n)
def zbq_s (v:(List Eng.Node)) (at_:Int) (row:(List Int)):Option BA:=evt fun n=>zbq_n n v at_ row
theorem zbq_valn:∀n,qAn Tryd.prog 48 (zbq_cs (zbq_n n))
 | 0=>qAn.zero fun args hp R k=>by
  show ((Dec.d zbq_da args).bind fun x=>(Dec.d zbq_db hp).bind fun y=>none)=none;cases Dec.d zbq_da args with
  | none=>rfl
  | some x=>cases Dec.d zbq_db hp <;> rfl
 | n+1=>zbq_val_t (zbq_n n) (qC0 (zbq_valn n))
theorem zbq_val:qAn Tryd.prog 48 (zbq_cs zbq_s):=qAn.evt zbq_valn (fun args hp R k=>by
  show ((Dec.d zbq_da args).bind fun x=>(Dec.d zbq_db hp).bind fun y=>_)=(((Dec.d zbq_da args).bind fun x=>(Dec.d zbq_db hp).bind fun y=>_):Option (SV × List SB)).bind _;cases Dec.d zbq_da args with
  | none=>rfl
  | some x =>
   cases Dec.d zbq_db hp with
   | none=>rfl
   | some y=>simp only [obS,Option.bind_assoc]) fun args hp v hp' h=>by
  obtain ⟨x,h1,h2⟩:=Option.bind_eq_some_iff.1 h;obtain ⟨y,h3,h4⟩:=Option.bind_eq_some_iff.1 h2;obtain ⟨r,h5,h6⟩:=Option.bind_eq_some_iff.1 h4;obtain ⟨n,h7⟩:=evt_some h5;refine ⟨n,?_⟩;show ((Dec.d zbq_da args).bind fun x=>(Dec.d zbq_db hp).bind fun y=>_)=_;rw [h1];simp only [obS];rw [h3];simp only [obS];exact (congrArg (fun z=>Option.bind z _) h7).trans h6
def zbq_w:CQ:=zbq_ws zbq_s
theorem zbq_ok:qAe Tryd.prog 48 zbq_w:=qC0 zbq_val
def zbl_q:IQ:=(.seq (rg 4 [oP 4 (.mv vF)]) (.seq (.seq (rg 17 [oP 11 (.call 45 []),oP 12 (.un .not t11),oM 13 t12,oE 14 (.mv t0) 13,oE 15 (.lenS t14) 13,oE 16 (.bi .gtr t15 (vI 16384)) 13,oP 17 (.pick t13 vT t16)]) (.cond t17 (.seq (rg 4 [oP 18 (.call 45 []),oM 4 t18]) (.cn [4] .ret)) .skip)) (.seq (rg 7 [oM 20 t0,oP 21 (.call 42 [t20]),oM 19 t21,oP 22 (.extract t19 0),oP 23 (.extract t19 1),oP 24 (.extract t19 2),oM 5 t22,oM 6 t23,oM 7 t24]) (.seq (.seq (rg 26 [oM 25 t6,oP 26 (.bi .neq t25 (vI 0))]) (.cond t26 (.seq (rg 4 [oP 4 (.mv vT)]) (.cn [4] .ret)) .skip)) (.seq (rg 10 [oM 28 t5,oM 29 t1,oP 30 (.call 48 [t28,(vI 0),t29]),oP 31 (.call 42 [t30]),oM 27 t31,oP 32 (.extract t27 0),oP 33 (.extract t27 1),oP 34 (.extract t27 2),oM 8 t32,oM 9 t33,oM 10 t34]) (.seq (rg 4 [oM 35 t9,oP 36 (.bi .eql t35 (vI 0)),oM 37 t36,oF 38 (.mv t5) 37,oF 39 (.mv t8) 37,oF 40 (.call 46 [t38,t39]) 37,oP 41 (.pick t37 t40 vF),oM 4 t41]) (.cn [4] .ret)))))))
theorem zbl_chk:chk Tryd.prog 11 []=some (zbl_q.erase,[.tmp 4],42):=by kernel_rfl
def zbl_s (text:BA) (row:(List Int)):Option Bool :=
 (zbm_s).bind fun r1 =>
 bif ((!r1) || (decide ((16384:Int)<(text.size:Int)))) then (
  (zbm_s).bind fun r2 =>
  some r2)
 else (
  (zak_s text).bind fun r3 =>
  bif (!decide (r3.2.1=(0:Int))) then (
   some true)
  else (
   (zbq_s r3.1 (0:Int) row).bind fun r4 =>
   (zak_s r4).bind fun r5 =>
   bif decide (r5.2.1=(0:Int)) then (
    (zbr_s r3.1 r5.1).bind fun r6 =>
    some r6)
   else (
    some false)))
def zbl_G:Nat→Option CQ:=tblQ [(45,zbm_w),(42,zak_w),(48,zbq_w),(46,zbr_w)]
theorem zbl_Gok:∀f C,zbl_G f=some C→qAe Tryd.prog f C:=qAl ⟨zbm_ok,zak_ok,zbq_ok,zbr_ok,tV⟩
def zbl_L:Nat→SubQ:=tblL []
theorem zbl_subs:qAq zbl_L zbl_G 1 11 42 zbl_q:=qAm (show qAr zbl_L zbl_G 1 11 42 [] from tV)
def zbl_da:=(qAb (dVC (dCO dS)) (qAb (dVC (dCO (dO 0))) dNil))
def zbl_db:=(qAb (qBn .i64) dNil)
def zbl_c:CS:=mkC zbl_da zbl_db (fun x y=>zbl_s x.1 y.1) (fun x y r=>.c (.o (.vB r))) fun x y r=>[.view .i64 y.1]
theorem zbl_val:qAn Tryd.prog 11 zbl_c:=qAp zbl_chk 11 zbl_Gok 1 (fun x=>Nat.le_of_ble_eq_true rfl) (fun y=>rfl) zbl_subs fun x y=>by
 simp only [zbl_s,-eq_self,qAc,qAg,obA,obS,slL,slR,qAd];kernel_rfl
end
end Go.Proofs.YtdcoiccdbgcpaaaDoor
