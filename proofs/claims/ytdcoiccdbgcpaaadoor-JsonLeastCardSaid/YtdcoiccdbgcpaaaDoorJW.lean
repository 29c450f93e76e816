/-
  Functions as the engine reads them (printed by gen.py).
-/
import Derived.Test.YtdcoiccdbgcpaaaDoorEngO
import Derived.Test.YtdcoiccdbgcpaaaDoorProg
import Derived.Test.YtdcoiccdbgcpaaaDoorUtf8
import Derived.Test.YtdcoiccdbgcpaaaDoorGC
import Derived.Test.YtdcoiccdbgcpaaaDoorPUtf
import Derived.Test.YtdcoiccdbgcpaaaDoorPShape
import Derived.Test.YtdcoiccdbgcpaaaDoorJP
import Derived.Test.YtdcoiccdbgcpaaaDoorPLexQ
namespace Go.Proofs.YtdcoiccdbgcpaaaDoor
open Go.Eng
set_option linter.unusedVariables false
set_option linter.unusedSimpArgs false
set_option maxRecDepth 100000
noncomputable section
structure qHd where
 addr:Bool
 buf:(List Int)
def zbt_q:IQ:=(.join [(2000000,some 0,.u8,0)] [] (.seq (rg 6 (rF 2 t0 0++[oP 6 (.ext (.ptrEq false) [t5,(.v (.pointer none))])])) (.cond t6 (rg 0 ([oM 7 t0,oM 8 t0,oP 9 (.ext .toUns [t8]),oP 10 (.ext .noEsc [t9]),oP 11 (.ext (.fromUns 107 2) [t10])]++rS 12 t7 0 t11)) (.seq (rg 19 (rF 14 t0 0++[oM 18 t0,oP 19 (.ext (.ptrEq true) [t17,t18])])) (.cond t19 .bad .skip)))))
theorem zbt_chk:chk Tryd.prog 146 []=some (zbt_q.erase,[],20):=by kernel_rfl
def zbt_s (b:qHd):Option qHd :=
 bif (!b.addr) then (
  some (⟨true,b.buf⟩:qHd))
 else (
  bif (!b.addr) then (
   none)
  else (
   some b))
def zbt_G:Nat→Option CQ:=tblQ []
theorem zbt_Gok:∀f C,zbt_G f=some C→qAe Tryd.prog f C:=fun f C h=>by cases h
def zbt_L:Nat→SubQ:=tblL []
theorem zbt_subs:qAu zbt_L zbt_G 2 2 20 zbt_q:=qAn (show qAv zbt_L zbt_G 2 2 20 [] from tV)
def zbt_da:=(qAb (dVC (dCO (dH 0 0))) dNil)
def zDJW1:=(dCells 107 (qAb (dP 0 0) (qAb (dO 1) dNil)))
def zbt_db:=(qAb zDJW1 (qAb (qCr .u8) dNil))
def zbt_c:CS:=mkC zbt_da zbt_db (fun x y=>zbt_s (⟨y.1.1,y.2.1⟩:qHd)) (fun x y r=>.tup []) fun x y r=>[.cells 107 [.opt r.addr 0 0,.own 1],.view .u8 y.2.1]
theorem zbt_val:qAp Tryd.prog 146 zbt_c:=qAs zbt_chk 2 zbt_Gok 2 (fun x=>Nat.le_of_ble_eq_true rfl) (fun y=>rfl) zbt_subs fun x y=>by
 simp only [zbt_s,-eq_self,qAd,qAg,obA,obS,slL,slR,qAc];kernel_rfl
def zbt_w:CQ:=qCc [(0,some 0,none),(0,some 1,some (.u8,5))] (qC3 [true,false] zbt_c)
theorem zbt_ok:qAe Tryd.prog 146 zbt_w:=qAx zbt_val
def zbs_q:IQ:=(.seq (rg 5 [oP 4 (.mv (vI 0)),oP 5 (.mv (.v (.nilIface)))]) (.seq (rg 7 [oM 6 t0,oP 7 (.call 146 [t6])]) (.seq (rg 0 ([oM 8 t0]++rF 9 t0 1++[oM 13 t1,oP 14 (.ext (.appStr 5) [t12,t13])]++rS 15 t8 1 t14)) (.seq (rg 5 [oM 17 t1,oP 18 (.lenS t17),oM 4 t18,oP 5 (.mv (.v (.nilIface)))]) (.canon [(2000000,some 0,.u8,0)] [4,5] .ret)))))
theorem zbs_chk:chk Tryd.prog 113 []=some (zbs_q.erase,[.tmp 4,.tmp 5],19):=by kernel_rfl
def zbs_s (b:qHd) (s:BA):Option (qHd × Int × Unit) :=
 (zbt_s b).bind fun r3 =>
 gd (b.buf.length+s.size≤140737488355328) <|
 some ((⟨r3.addr,(b.buf++(qAk s))⟩:qHd),(s.size:Int),())
def zbs_G:Nat→Option CQ:=tblQ [(146,zbt_w)]
theorem zbs_Gok:∀f C,zbs_G f=some C→qAe Tryd.prog f C:=qAl ⟨zbt_ok,tV⟩
def zbs_L:Nat→SubQ:=tblL []
theorem zbs_subs:qAu zbs_L zbs_G 2 6 19 zbs_q:=qAn (show qAv zbs_L zbs_G 2 6 19 [] from tV)
def zbs_da:=(qAb (dVC (dCO (dH 0 0))) (qAb (dVC (dCO dS)) dNil))
def zbs_db:=(qAb zDJW1 (qAb (dRow .u8 5) dNil))
def zbs_c:CS:=mkC zbs_da zbs_db (fun x y=>zbs_s (⟨y.1.1,y.2.1⟩:qHd) x.2.1) (fun x y r=>.tup [.o (.vI r.2.1),.o (.val (.nilIface))]) fun x y r=>[.cells 107 [.opt r.1.addr 0 0,.own 2],.dead,.row .u8 5 r.1.buf]
theorem zbs_val:qAp Tryd.prog 113 zbs_c:=qAs zbs_chk 6 zbs_Gok 2 (fun x=>Nat.le_of_ble_eq_true rfl) (fun y=>rfl) zbs_subs fun x y=>by
 simp only [zbs_s,-eq_self,qAd,qAg,obA,obS,slL,slR,qAc];kernel_rfl
def zbs_w:CQ:=qCc [(0,some 0,none),(0,some 1,some (.u8,5))] (qC3 [true,true] zbs_c)
theorem zbs_ok:qAe Tryd.prog 113 zbs_w:=qAx zbs_val
def zbr_q:IQ:=(.seq (rg 4 [oP 4 (.mv (.v (.nilIface)))]) (.seq (rg 6 [oM 5 t0,oP 6 (.call 146 [t5])]) (.seq (rg 0 ([oM 7 t0]++rF 8 t0 1++[oM 12 t1,oP 13 (.bslice 5 1 1 [.int .u8 0] [(0,t12)]),oP 14 (.append 5 1 1 [.int .u8 0] t11 t13)]++rS 15 t7 1 t14)) (.seq (rg 4 [oP 4 (.mv (.v (.nilIface)))]) (.canon [(2000000,some 0,.u8,0)] [4] .ret)))))
theorem zbr_chk:chk Tryd.prog 115 []=some (zbr_q.erase,[.tmp 4],17):=by kernel_rfl
def zbr_s (b:qHd) (c:Int):Option (qHd × Unit) :=
 (zbt_s b).bind fun r3 =>
 gd (b.buf.length+([c]:List Int).length≤9223372036854775807∧(b.buf.length+([c]:List Int).length)*1≤140737488355328) <|
 some ((⟨r3.addr,(b.buf++[c])⟩:qHd),())
def zbr_G:Nat→Option CQ:=tblQ [(146,zbt_w)]
theorem zbr_Gok:∀f C,zbr_G f=some C→qAe Tryd.prog f C:=qAl ⟨zbt_ok,tV⟩
def zbr_L:Nat→SubQ:=tblL []
theorem zbr_subs:qAu zbr_L zbr_G 2 5 17 zbr_q:=qAn (show qAv zbr_L zbr_G 2 5 17 [] from tV)
def zDJW4:=(qAb (dVC (dCO (dI .u8))) dNil)
def zbr_da:=(qAb (dVC (dCO (dH 0 0))) zDJW4)
def zbr_db:=(qAb zDJW1 (qAb (dRow .u8 5) dNil))
def zbr_c:CS:=mkC zbr_da zbr_db (fun x y=>zbr_s (⟨y.1.1,y.2.1⟩:qHd) x.2.1) (fun x y r=>.c (.o (.val (.nilIface)))) fun x y r=>[.cells 107 [.opt r.1.addr 0 0,.own 2],.dead,.row .u8 5 r.1.buf]
theorem zbr_val:qAp Tryd.prog 115 zbr_c:=qAs zbr_chk 5 zbr_Gok 2 (fun x=>Nat.le_of_ble_eq_true rfl) (fun y=>rfl) zbr_subs fun x y=>by
 simp only [zbr_s,-eq_self,qAd,qAg,obA,obS,slL,slR,qAc];kernel_rfl
def zbr_w:CQ:=qCc [(0,some 0,none),(0,some 1,some (.u8,5))] (qC3 [true,true] zbr_c)
theorem zbr_ok:qAe Tryd.prog 115 zbr_w:=qAx zbr_val
def zag_q:IQ:=(.seq (rg 4 [oP 4 (.mv (vI 0))]) (.seq (rg 4 [oM 5 t0,oM 6 t1,oP 7 (.ext .idxByte [t5,t6]),oM 4 t7]) (.cn [4] .ret)))
theorem zag_chk:chk Tryd.prog 169 []=some (zag_q.erase,[.tmp 4],8):=by kernel_rfl
def zag_s (s:BA) (c:Int):Option Int :=
 some (Lib.indexByte s.data.toList (Int.toNat c).toUInt8)
def zag_G:Nat→Option CQ:=tblQ []
theorem zag_Gok:∀f C,zag_G f=some C→qAe Tryd.prog f C:=fun f C h=>by cases h
def zag_L:Nat→SubQ:=tblL []
theorem zag_subs:qAu zag_L zag_G 0 5 8 zag_q:=qAn (show qAv zag_L zag_G 0 5 8 [] from tV)
def zag_da:=(qAb (dVC (dCO dS)) zDJW4)
def zag_db:=(dNil:Dec Unit (List SB))
def zag_c:CS:=mkC zag_da zag_db (fun x y=>zag_s x.1 x.2.1) (fun x y r=>.c (.o (.vI r))) fun x y r=>[]
theorem zag_val:qAp Tryd.prog 169 zag_c:=qAs zag_chk 5 zag_Gok 0 (fun x=>Nat.le_of_ble_eq_true rfl) (fun y=>rfl) zag_subs fun x y=>by
 simp only [zag_s,-eq_self,qAd,qAg,obA,obS,slL,slR,qAc];kernel_rfl
def zag_w:CQ:=qEg [] zag_c
theorem zag_ok:qAe Tryd.prog 169 zag_w:=qAz zag_val
def zbv_q:IQ:=(.seq (rg 4 [oP 4 (.mv (vI 0))]) (.seq (rg 4 [oM 5 t0,oM 6 t1,oP 7 (.call 169 [t5,t6]),oM 4 t7]) (.cn [4] .ret)))
theorem zbv_chk:chk Tryd.prog 147 []=some (zbv_q.erase,[.tmp 4],8):=by kernel_rfl
def zbv_s (s:BA) (c:Int):Option Int :=
 (zag_s s c).bind fun r1 =>
 some r1
def zbv_G:Nat→Option CQ:=tblQ [(169,zag_w)]
theorem zbv_Gok:∀f C,zbv_G f=some C→qAe Tryd.prog f C:=qAl ⟨zag_ok,tV⟩
def zbv_L:Nat→SubQ:=tblL []
theorem zbv_subs:qAu zbv_L zbv_G 0 5 8 zbv_q:=qAn (show qAv zbv_L zbv_G 0 5 8 [] from tV)
def zbv_da:=(qAb (dVC (dCO dS)) zDJW4)
def zbv_db:=(dNil:Dec Unit (List SB))
def zbv_c:CS:=mkC zbv_da zbv_db (fun x y=>zbv_s x.1 x.2.1) (fun x y r=>.c (.o (.vI r))) fun x y r=>[]
theorem zbv_val:qAp Tryd.prog 147 zbv_c:=qAs zbv_chk 5 zbv_Gok 0 (fun x=>Nat.le_of_ble_eq_true rfl) (fun y=>rfl) zbv_subs fun x y=>by
 simp only [zbv_s,-eq_self,qAd,qAg,obA,obS,slL,slR,qAc];kernel_rfl
def zbv_w:CQ:=qEg [] zbv_c
theorem zbv_ok:qAe Tryd.prog 147 zbv_w:=qAz zbv_val
def zao_b0:IQ:=(.loop [0,1,4,11,12] (.seq (rg 13 [oP 13 (.bi .lss t12 t11)]) (.seq (.cond t13 .skip (.cn [0,1,4] (.exit 0))) (.seq (.block 1 (.seq (rg 5 [oM 14 t12,oM 5 t14]) (.seq (rg 6 [oM 15 t1,oM 16 t5,oP 17 (.index t15 t16),oM 6 t17]) (.seq (.seq (rg 27 [oM 18 t6,oP 19 (.bi .geq t18 (vC 32)),oM 20 t19,oF 21 (.mv t6) 20,oF 22 (.bi .neq t21 (vC 34)) 20,oP 23 (.pick t20 t22 vF),oM 24 t23,oF 25 (.mv t6) 24,oF 26 (.bi .neq t25 (vC 92)) 24,oP 27 (.pick t24 t26 vF)]) (.cond t27 (.exit 1) .skip)) (.seq (rg 33 [oM 28 t0,oM 29 t1,oM 30 t4,oM 31 t5,oP 32 (.sub none t29 (some t30) (some t31)),oP 33 (.call 113 [t28,t32])]) (.seq (rg 4 [oM 34 t5,oP 35 (.bi .add t34 (vI 1)),oM 4 t35]) (.seq (rg 7 [oM 36 t6,oP 37 (.call 147 [(.v (.string ⟨#[8,12,10,13,9,34,92]⟩)),t36]),oM 7 t37]) (.seq (rg 39 [oM 38 t7,oP 39 (.bi .geq t38 (vI 0))]) (.cond t39 (rg 46 [oM 40 t0,oM 41 t7,oM 42 t7,oP 43 (.bi .add t42 (vI 1)),oP 44 (.sub none (.v (.string ⟨#[98,102,110,114,116,34,92]⟩)) (some t41) (some t43)),oP 45 (.bi .add (.v (.string ⟨#[92]⟩)) t44),oP 46 (.call 113 [t40,t45])]) (.reg 62 (some [0,1,2,3,4,5,6,7,8,9,10,11,12,13,14,15]) [oM 47 t0,oM 48 t6,oP 49 (.bi .shr t48 (.v (.int .u64 4))),oM 50 t6,oP 51 (.bi .shr t50 (.v (.int .u64 4))),oP 52 (.bi .add t51 (vC 1)),oP 53 (.sub none (.v (.string ⟨#[48,49,50,51,52,53,54,55,56,57,97,98,99,100,101,102]⟩)) (some t49) (some t52)),oP 54 (.bi .add (.v (.string ⟨#[92,117,48,48]⟩)) t53),oM 55 t6,oP 56 (.bi .and t55 (vC 15)),oM 57 t6,oP 58 (.bi .and t57 (vC 15)),oP 59 (.bi .add t58 (vC 1)),oP 60 (.sub none (.v (.string ⟨#[48,49,50,51,52,53,54,55,56,57,97,98,99,100,101,102]⟩)) (some t56) (some t59)),oP 61 (.bi .add t54 t60),oP 62 (.callL 113 [t47,t61])])))))))))) (rg 12 [oP 63 (.bi .add t12 (vI 1)),oM 12 t63])))))
def zao_q:IQ:=(.join [(2000000,some 0,.u8,0)] [] (.seq (rg 9 [oM 8 t0,oP 9 (.call 115 [t8,(vC 34)])]) (.seq (rg 4 [oP 4 (.mv (vI 0))]) (.seq (.seq (rg 12 [oM 10 t1,oP 11 (.lenS t10),oP 12 (.mv (vI 0))]) (.block 0 (.cn [0,1,4,11,12] (.sub 0 zao_b0)))) (rg 69 [oM 64 t0,oM 65 t1,oM 66 t4,oP 67 (.sub none t65 (some t66) none),oP 68 (.bi .add t67 (.v (.string ⟨#[34]⟩))),oP 69 (.call 113 [t64,t68])])))))
theorem zao_chk:chk Tryd.prog 114 [62]=some (zao_q.erase,[],70):=by kernel_rfl
def qD6 (s:BA) (from_ x11_ x12_:Int) (b_addr:Bool) (b_buf:List Int):Option ((Int × Int × Bool × (List Int)) ⊕ (Int × Bool × (List Int))) :=
 bif decide (x12_<x11_) then (
  gd (0≤x12_∧x12_<s.size) <|
  bif (((decide ((32:Int)≤(bAt s x12_))) && (!decide ((bAt s x12_)=(34:Int)))) && (!decide ((bAt s x12_)=(92:Int)))) then (
   gd (qAh (x12_+(1:Int))) <|
   some (.inl (from_,(x12_+(1:Int)),b_addr,b_buf)))
  else (
   gd (0≤from_∧from_≤x12_∧x12_≤s.size) <|
   (zbs_s (⟨b_addr,b_buf⟩:qHd) (s.extract (Int.toNat from_) (Int.toNat x12_))).bind fun r22 =>
   gd (qAh (x12_+(1:Int))) <|
   (zbv_s (⟨#[8,12,10,13,9,34,92]⟩:BA) (bAt s x12_)).bind fun r23 =>
   bif decide ((0:Int)≤r23) then (
    gd (qAh (r23+(1:Int))) <|
    gd (0≤r23∧r23≤(r23+(1:Int))∧(r23+(1:Int))≤(⟨#[98,102,110,114,116,34,92]⟩:BA).size) <|
    gd ((⟨#[92]⟩:BA).size+((⟨#[98,102,110,114,116,34,92]⟩:BA).extract (Int.toNat r23) (Int.toNat (r23+(1:Int)))).size≤9223372036854775807) <|
    (zbs_s r22.1 ((⟨#[92]⟩:BA)++((⟨#[98,102,110,114,116,34,92]⟩:BA).extract (Int.toNat r23) (Int.toNat (r23+(1:Int)))))).bind fun r24 =>
    gd (qAh (x12_+(1:Int))) <|
    some (.inl ((x12_+(1:Int)),(x12_+(1:Int)),r24.1.addr,r24.1.buf)))
   else (
    gd (0≤(4:Int)) <|
    gd (0≤(4:Int)) <|
    gd (0≤((bAt s x12_) / 16)∧((bAt s x12_) / 16)≤((((bAt s x12_) / 16)+(1:Int)) % 256)∧((((bAt s x12_) / 16)+(1:Int)) % 256)≤(⟨#[48,49,50,51,52,53,54,55,56,57,97,98,99,100,101,102]⟩:BA).size) <|
    gd ((⟨#[92,117,48,48]⟩:BA).size+((⟨#[48,49,50,51,52,53,54,55,56,57,97,98,99,100,101,102]⟩:BA).extract (Int.toNat ((bAt s x12_) / 16)) (Int.toNat ((((bAt s x12_) / 16)+(1:Int)) % 256))).size≤9223372036854775807) <|
    gd (0≤(qBd .u8 (bAt s x12_) (15:Int))∧(qBd .u8 (bAt s x12_) (15:Int))≤(((qBd .u8 (bAt s x12_) (15:Int))+(1:Int)) % 256)∧(((qBd .u8 (bAt s x12_) (15:Int))+(1:Int)) % 256)≤(⟨#[48,49,50,51,52,53,54,55,56,57,97,98,99,100,101,102]⟩:BA).size) <|
    gd (((⟨#[92,117,48,48]⟩:BA)++((⟨#[48,49,50,51,52,53,54,55,56,57,97,98,99,100,101,102]⟩:BA).extract (Int.toNat ((bAt s x12_) / 16)) (Int.toNat ((((bAt s x12_) / 16)+(1:Int)) % 256)))).size+((⟨#[48,49,50,51,52,53,54,55,56,57,97,98,99,100,101,102]⟩:BA).extract (Int.toNat (qBd .u8 (bAt s x12_) (15:Int))) (Int.toNat (((qBd .u8 (bAt s x12_) (15:Int))+(1:Int)) % 256))).size≤9223372036854775807) <|
    (zbs_s r22.1 (((⟨#[92,117,48,48]⟩:BA)++((⟨#[48,49,50,51,52,53,54,55,56,57,97,98,99,100,101,102]⟩:BA).extract (Int.toNat ((bAt s x12_) / 16)) (Int.toNat ((((bAt s x12_) / 16)+(1:Int)) % 256))))++((⟨#[48,49,50,51,52,53,54,55,56,57,97,98,99,100,101,102]⟩:BA).extract (Int.toNat (qBd .u8 (bAt s x12_) (15:Int))) (Int.toNat (((qBd .u8 (bAt s x12_) (15:Int))+(1:Int)) % 256))))).bind fun r25 =>
    gd (qAh (x12_+(1:Int))) <|
    some (.inl ((x12_+(1:Int)),(x12_+(1:Int)),r25.1.addr,r25.1.buf)))))
 else (
  some (.inr (from_,b_addr,b_buf)))
def zao_p0 (s:BA) (from_ x11_ x12_:Int) (b_addr:Bool) (b_buf:List Int):Option (Int × Bool × (List Int)) :=
 qBj (fun x:(Int × Int × Bool × (List Int))=>qD6 s x.1 x11_ x.2.1 x.2.2.1 x.2.2.2) (from_,x12_,b_addr,b_buf)
def zao_s (b:qHd) (s:BA):Option qHd :=
 (zbr_s b (34:Int)).bind fun r21 =>
 (zao_p0 s (0:Int) (s.size:Int) (0:Int) r21.1.addr r21.1.buf).bind fun o26 =>
 gd (0≤o26.1∧o26.1≤(s.size:Int)∧(s.size:Int)≤s.size) <|
 gd ((s.extract (Int.toNat o26.1) s.size).size+(⟨#[34]⟩:BA).size≤9223372036854775807) <|
 (zbs_s (⟨o26.2.1,o26.2.2⟩:qHd) ((s.extract (Int.toNat o26.1) s.size)++(⟨#[34]⟩:BA))).bind fun r27 =>
 some r27.1
def zao_G:Nat→Option CQ:=tblQ [(115,zbr_w),(113,zbs_w),(147,zbv_w)]
theorem zao_Gok:∀f C,zao_G f=some C→qAe Tryd.prog f C:=qAl ⟨zbr_ok,zbs_ok,zbv_ok,tV⟩
def zDJW3:=(dCells 107 (qAb (dP 0 0) (qAb (dO 2) dNil)))
def zao_d0:=(dQS (qAb (dSO 0 (dH 0 0)) (qAb (dSO 1 dS) (qAb (dSO 4 dZ) (qAb (dSO 11 dZ) (qAb (dSO 12 dZ) dNil))))) (qAb zDJW3 (qAb dDead (qAb (dRow .u8 5) dNil))))
def zao_l0:SubQ:=mkL zao_d0 (fun x=>zao_p0 x.1.2.1 x.1.2.2.1 x.1.2.2.2.1 x.1.2.2.2.2.1 x.2.1.1 x.2.2.2.1) fun x r R kn kx kr=>kx 0 ⟨[sL 0 (.hd 0 0),sL 1 (.vS x.1.2.1),sL 4 (.vI r.1)],[],[.cells 107 [.opt r.2.1 0 0,.own 2],.dead,.row .u8 5 r.2.2]⟩
def zao_L:Nat→SubQ:=tblL [(0,zao_l0)]
theorem zao_sub0:qBu zao_L zao_G 2 13 70 0 zao_b0:=qA2 (show zao_L 0=zao_l0 from by kernel_rfl) fun x R kn kx kr=>qA0 (step:=fun y=>qD6 x.1.2.1 y.1 x.1.2.2.2.1 y.2.1 y.2.2.1 y.2.2.2) (enc:=fun (y:Int × Int × Bool × (List Int))=>zao_d0.e ((x.1.1,x.1.2.1,y.1,x.1.2.2.2.1,y.2.1,x.1.2.2.2.2.2),((y.2.2.1,x.2.1.2),x.2.2.1,y.2.2.2,x.2.2.2.2))) (fun y=>by kernel_rfl) (fun y ki=>by simp only [qD6,-eq_self,qAd,qAg,obA,obS,slL,slR,qAc]; kernel_rfl) (x.1.2.2.1,x.1.2.2.2.2.1,x.2.1.1,x.2.2.2.1)
theorem zao_subs:qAu zao_L zao_G 2 13 70 zao_q:=qAn (show qAv zao_L zao_G 2 13 70 [(0,zao_b0)] from ⟨zao_sub0,tV⟩)
def zao_da:=(qAb (dVC (dCO (dH 0 0))) (qAb (dVC (dCO dS)) dNil))
def zao_db:=(qAb zDJW1 (qAb (dRow .u8 5) dNil))
def zao_c:CS:=mkC zao_da zao_db (fun x y=>zao_s (⟨y.1.1,y.2.1⟩:qHd) x.2.1) (fun x y r=>.tup []) fun x y r=>[.cells 107 [.opt r.addr 0 0,.own 2],.dead,.row .u8 5 r.buf]
theorem zao_val:qAp Tryd.prog 114 zao_c:=qAs zao_chk 13 zao_Gok 2 (fun x=>Nat.le_of_ble_eq_true rfl) (fun y=>rfl) zao_subs fun x y=>by
 simp only [zao_s,-eq_self,qAd,qAg,obA,obS,slL,slR,qAc];kernel_rfl
def zao_w:CQ:=qCc [(0,some 0,none),(0,some 1,some (.u8,5))] (qC3 [true,true] zao_c)
theorem zao_ok:qAe Tryd.prog 114 zao_w:=qAx zao_val
def zbj_da:=(qAb (dVC (dCO (dH 0 0))) (qAb (dVC (dCO (dO 1))) (qAb (dVC (dCO dZ)) dNil)))
def zbj_db:=(qAb zDJW3 (qAb (qCr .node) (qAb (dRow .u8 5) dNil)))
def zbj_cs (self:qHd→(List Eng.Node)→Int→Option (qHd × Int)):CS:=mkC zbj_da zbj_db (fun x y=>self (⟨y.1.1,y.2.2.1⟩:qHd) y.2.1 x.2.2.1) (fun x y r=>.c (.o (.vI r.2))) fun x y r=>[.cells 107 [.opt r.1.addr 0 0,.own 3],.view .node y.2.1,.dead,.row .u8 5 r.1.buf]
def zbj_ws (self:qHd→(List Eng.Node)→Int→Option (qHd × Int)):CQ:=qCc [(0,some 0,none),(0,some 1,some (.u8,5)),(1,none,some (.node,36))] (qC3 [true,false,true] (zbj_cs self))
def zbj_b2:IQ:=(.join [] [0,1,2,7,8,26,27] (.seq (.seq (rg 36 [oP 34 (.faddr 0 t7),oP 35 (.load none t34),oP 36 (.bi .eql t35 (vI 7))]) (.cond t36 (.seq (rg 43 [oM 37 t0,oM 38 t1,oM 39 t2,oP 40 (.iaddr 6 t38 t39),oP 41 (.faddr 1 t40),oP 42 (.load none t41),oP 43 (.call 114 [t37,t42])]) (rg 45 [oM 44 t0,oP 45 (.call 115 [t44,(vC 58)])])) .skip)) (rg 2 [oM 46 t0,oM 47 t1,oM 48 t2,oP 49 (.call 80 [t46,t47,t48]),oM 2 t49])))
def zbj_b1:IQ:=(.loop [0,1,2,7,8,26,27] (.seq (rg 28 [oP 28 (.bi .lss t27 t26)]) (.seq (.cond t28 .skip (.cn [0,2,8] (.exit 1))) (.seq (.block 2 (.seq (rg 9 [oM 29 t27,oM 9 t29]) (.seq (.seq (rg 31 [oM 30 t9,oP 31 (.bi .gtr t30 (vI 0))]) (.cond t31 (rg 33 [oM 32 t0,oP 33 (.call 115 [t32,(vC 44)])]) .skip)) (.cn [0,1,2,7,8,26,27] (.sub 2 zbj_b2))))) (rg 27 [oP 50 (.bi .add t27 (vI 1)),oM 27 t50])))))
def zbj_b0:IQ:=(.join [] [0,2] (.seq (rg 24 [oM 21 t0,oM 22 t8,oP 23 (.index t22 (vI 0)),oP 24 (.call 115 [t21,t23])]) (.seq (.seq (rg 27 [oP 25 (.faddr 5 t7),oP 26 (.load none t25),oP 27 (.mv (vI 0))]) (.block 1 (.cn [0,1,2,7,8,26,27] (.sub 1 zbj_b1)))) (rg 54 [oM 51 t0,oM 52 t8,oP 53 (.index t52 (vI 1)),oP 54 (.call 115 [t51,t53])]))))
def zbj_q:IQ:=(.seq (rg 6 [oP 6 (.mv (vI 0))]) (.seq (rg 0 [oM 10 t1,oM 11 t2,oP 12 (.iaddr 6 t10 t11),oP 13 (.load (some 6) t12),oP 7 (.alloc 36 [.int .i64 0,.string ⟨#[]⟩,.string ⟨#[]⟩,.bool false,.int .i64 0,.int .i64 0]),oN (.store 6 t7 t13)]) (.seq (rg 2 [oM 14 t2,oP 15 (.bi .add t14 (vI 1)),oM 2 t15]) (.seq (.seq (rg 17 [oP 16 (.faddr 0 t7),oP 17 (.load none t16)]) (.block 0 (.seq (rg 55 [oP 56 (.bi .eql t17 (vI 1)),oM 55 t56]) (.cond t55 (rg 58 [oM 57 t0,oP 58 (.call 113 [t57,(.v (.string ⟨#[110,117,108,108]⟩))])]) (.seq (rg 59 [oP 60 (.bi .eql t17 (vI 2)),oM 59 t60]) (.cond t59 (rg 62 [oM 61 t0,oP 62 (.call 113 [t61,(.v (.string ⟨#[102,97,108,115,101]⟩))])]) (.seq (rg 63 [oP 64 (.bi .eql t17 (vI 3)),oM 63 t64]) (.cond t63 (rg 66 [oM 65 t0,oP 66 (.call 113 [t65,(.v (.string ⟨#[116,114,117,101]⟩))])]) (.seq (rg 67 [oP 68 (.bi .eql t17 (vI 4)),oM 67 t68]) (.cond t67 (rg 72 [oM 69 t0,oP 70 (.faddr 2 t7),oP 71 (.load none t70),oP 72 (.call 113 [t69,t71])]) (.seq (rg 73 [oP 74 (.bi .eql t17 (vI 5)),oM 73 t74]) (.cond t73 (rg 78 [oM 75 t0,oP 76 (.faddr 2 t7),oP 77 (.load none t76),oP 78 (.call 114 [t75,t77])]) (.seq (rg 8 [oP 8 (.mv (.v (.string ⟨#[91,93]⟩)))]) (.seq (.seq (rg 20 [oP 18 (.faddr 0 t7),oP 19 (.load none t18),oP 20 (.bi .eql t19 (vI 7))]) (.cond t20 (rg 8 [oP 8 (.mv (.v (.string ⟨#[123,125]⟩)))]) .skip)) (.cn [0,1,2,7,8] (.sub 0 zbj_b0)))))))))))))))) (.seq (rg 6 [oM 79 t2,oM 6 t79]) (.canon [(2000000,some 0,.u8,0)] [6] .ret))))))
theorem zbj_chk:chk Tryd.prog 80 []=some (zbj_q.erase,[.tmp 6],80):=by kernel_rfl
def zbj_p2 (self:qHd→(List Eng.Node)→Int→Option (qHd × Int)) (at_:Int) (b_addr:Bool) (v:List Eng.Node) (qHn:Int) (b_buf:List Int):Option (Int × Bool × (List Int)) :=
 bif decide (qHn=(7:Int)) then (
  gd (0≤at_∧at_<v.length) <|
  gd ((Int.toNat at_)<v.length) <|
  gd ((Int.toNat at_)<v.length) <|
  (zao_s (⟨b_addr,b_buf⟩:qHd) ((v.getD (Int.toNat at_) (ET.dft .node)).key)).bind fun r57 =>
  (zbr_s r57 (58:Int)).bind fun r58 =>
  (self r58.1 v at_).bind fun r59 =>
  some (r59.2,r59.1.addr,r59.1.buf))
 else (
  (self (⟨b_addr,b_buf⟩:qHd) v at_).bind fun r60 =>
  some (r60.2,r60.1.addr,r60.1.buf))
def qEc (self:qHd→(List Eng.Node)→Int→Option (qHd × Int)) (at_ x26_ x27_:Int) (b_addr:Bool) (v:List Eng.Node) (qHn:Int) (b_buf:List Int):Option ((Int × Int × Bool × (List Int)) ⊕ (Int × Bool × (List Int))) :=
 bif decide (x27_<x26_) then (
  bif decide ((0:Int)<x27_) then (
   (zbr_s (⟨b_addr,b_buf⟩:qHd) (44:Int)).bind fun r56 =>
   (zbj_p2 self at_ r56.1.addr v qHn r56.1.buf).bind fun o61 =>
   gd (qAh (x27_+(1:Int))) <|
   some (.inl (o61.1,(x27_+(1:Int)),o61.2.1,o61.2.2)))
  else (
   (zbj_p2 self at_ b_addr v qHn b_buf).bind fun o62 =>
   gd (qAh (x27_+(1:Int))) <|
   some (.inl (o62.1,(x27_+(1:Int)),o62.2.1,o62.2.2))))
 else (
  some (.inr (at_,b_addr,b_buf)))
def zbj_p1 (self:qHd→(List Eng.Node)→Int→Option (qHd × Int)) (at_ x26_ x27_:Int) (b_addr:Bool) (v:List Eng.Node) (qHn:Int) (b_buf:List Int):Option (Int × Bool × (List Int)) :=
 qBj (fun x:(Int × Int × Bool × (List Int))=>qEc self x.1 x26_ x.2.1 x.2.2.1 v qHn x.2.2.2) (at_,x27_,b_addr,b_buf)
def zbj_p0 (self:qHd→(List Eng.Node)→Int→Option (qHd × Int)) (at_:Int) (signs:BA) (b_addr:Bool) (v:List Eng.Node) (b_buf:List Int) (qHn qHo:Int):Option (Int × Bool × (List Int)) :=
 gd (0≤(0:Int)∧(0:Int)<signs.size) <|
 (zbr_s (⟨b_addr,b_buf⟩:qHd) (bAt signs (0:Int))).bind fun r55 =>
 (zbj_p1 self at_ qHo (0:Int) r55.1.addr v qHn r55.1.buf).bind fun o63 =>
 gd (0≤(1:Int)∧(1:Int)<signs.size) <|
 (zbr_s (⟨o63.2.1,o63.2.2⟩:qHd) (bAt signs (1:Int))).bind fun r64 =>
 some (o63.1,r64.1.addr,r64.1.buf)
def zbj_t (self:qHd→(List Eng.Node)→Int→Option (qHd × Int)) (b:qHd) (v:(List Eng.Node)) (at_:Int):Option (qHd × Int) :=
 gd (0≤at_∧at_<v.length) <|
 gd ((Int.toNat at_)<v.length) <|
 gd (qAh (at_+(1:Int))) <|
 bif decide (((v.getD (Int.toNat at_) (ET.dft .node)).kind)=(1:Int)) then (
  (zbs_s b (⟨#[110,117,108,108]⟩:BA)).bind fun r50 =>
  some (r50.1,(at_+(1:Int))))
 else (
  bif decide (((v.getD (Int.toNat at_) (ET.dft .node)).kind)=(2:Int)) then (
   (zbs_s b (⟨#[102,97,108,115,101]⟩:BA)).bind fun r51 =>
   some (r51.1,(at_+(1:Int))))
  else (
   bif decide (((v.getD (Int.toNat at_) (ET.dft .node)).kind)=(3:Int)) then (
    (zbs_s b (⟨#[116,114,117,101]⟩:BA)).bind fun r52 =>
    some (r52.1,(at_+(1:Int))))
   else (
    bif decide (((v.getD (Int.toNat at_) (ET.dft .node)).kind)=(4:Int)) then (
     (zbs_s b ((v.getD (Int.toNat at_) (ET.dft .node)).text)).bind fun r53 =>
     some (r53.1,(at_+(1:Int))))
    else (
     bif decide (((v.getD (Int.toNat at_) (ET.dft .node)).kind)=(5:Int)) then (
      (zao_s b ((v.getD (Int.toNat at_) (ET.dft .node)).text)).bind fun r54 =>
      some (r54,(at_+(1:Int))))
     else (
      bif decide (((v.getD (Int.toNat at_) (ET.dft .node)).kind)=(7:Int)) then (
       (zbj_p0 self (at_+(1:Int)) (⟨#[123,125]⟩:BA) b.addr v b.buf ((v.getD (Int.toNat at_) (ET.dft .node)).kind) ((v.getD (Int.toNat at_) (ET.dft .node)).kids)).bind fun o65 =>
       some ((⟨o65.2.1,o65.2.2⟩:qHd),o65.1))
      else (
       (zbj_p0 self (at_+(1:Int)) (⟨#[91,93]⟩:BA) b.addr v b.buf ((v.getD (Int.toNat at_) (ET.dft .node)).kind) ((v.getD (Int.toNat at_) (ET.dft .node)).kids)).bind fun o66 =>
       some ((⟨o66.2.1,o66.2.2⟩:qHd),o66.1)))))))
def zbj_G (self:qHd→(List Eng.Node)→Int→Option (qHd × Int)):Nat→Option CQ:=tblQ [(113,zbs_w),(114,zao_w),(115,zbr_w),(80,zbj_ws self)]
theorem zbj_Gok (self:qHd→(List Eng.Node)→Int→Option (qHd × Int)) (hself:qAe Tryd.prog 80 (zbj_ws self)):∀f C,(zbj_G self) f=some C→qAe Tryd.prog f C:=qAl ⟨zbs_ok,zao_ok,zbr_ok,hself,tV⟩
def zDJW2:=(dCells 36 (qAb dZ (qAb dS (qAb dS (qAb dB (qAb dZ (qAb dZ dNil)))))))
def zbj_d2:=(dQS (qAb (dSO 0 (dH 0 0)) (qAb (dSO 1 (dO 1)) (qAb (dSO 2 dZ) (qAb (dSO 7 (dH 3 0)) (qAb (dSO 8 dS) (qAb (dSO 26 dZ) (qAb (dSO 27 dZ) dNil))))))) (qAb (dCells 107 (qAb (dP 0 0) (qAb (dO 4) dNil))) (qAb (qCr .node) (qAb dDead (qAb zDJW2 (qAb (dRow .u8 5) dNil))))))
def zbj_l2 (self:qHd→(List Eng.Node)→Int→Option (qHd × Int)):SubQ:=mkL zbj_d2 (fun x=>zbj_p2 self x.1.2.2.1 x.2.1.1 x.2.2.1 x.2.2.2.2.1.1 x.2.2.2.2.2.1) fun x r R kn kx kr=>kn ⟨[sL 0 (.hd 0 0),sL 1 (.own 1),sL 2 (.vI r.1),sL 7 (.hd 3 0),sL 8 (.vS x.1.2.2.2.2.1),sL 26 (.vI x.1.2.2.2.2.2.1),sL 27 (.vI x.1.2.2.2.2.2.2.1)],[],[.cells 107 [.opt r.2.1 0 0,.own 4],.view .node x.2.2.1,.dead,.cells 36 [.vI x.2.2.2.2.1.1,.vS x.2.2.2.2.1.2.1,.vS x.2.2.2.2.1.2.2.1,.vB x.2.2.2.2.1.2.2.2.1,.vI x.2.2.2.2.1.2.2.2.2.1,.vI x.2.2.2.2.1.2.2.2.2.2.1],.row .u8 5 r.2.2]⟩
def zbj_d1:=(dQS (qAb (dSO 0 (dH 0 0)) (qAb (dSO 1 (dO 1)) (qAb (dSO 2 dZ) (qAb (dSO 7 (dH 3 0)) (qAb (dSO 8 dS) (qAb (dSO 26 dZ) (qAb (dSO 27 dZ) dNil))))))) (qAb (dCells 107 (qAb (dP 0 0) (qAb (dO 4) dNil))) (qAb (qCr .node) (qAb dDead (qAb zDJW2 (qAb (dRow .u8 5) dNil))))))
def zbj_l1 (self:qHd→(List Eng.Node)→Int→Option (qHd × Int)):SubQ:=mkL zbj_d1 (fun x=>zbj_p1 self x.1.2.2.1 x.1.2.2.2.2.2.1 x.1.2.2.2.2.2.2.1 x.2.1.1 x.2.2.1 x.2.2.2.2.1.1 x.2.2.2.2.2.1) fun x r R kn kx kr=>kx 1 ⟨[sL 0 (.hd 0 0),sL 2 (.vI r.1),sL 8 (.vS x.1.2.2.2.2.1)],[],[.cells 107 [.opt r.2.1 0 0,.own 3],.view .node x.2.2.1,.dead,.row .u8 5 r.2.2]⟩
def zbj_d0:=(dQS (qAb (dSO 0 (dH 0 0)) (qAb (dSO 1 (dO 1)) (qAb (dSO 2 dZ) (qAb (dSO 7 (dH 3 0)) (qAb (dSO 8 dS) dNil))))) (qAb zDJW3 (qAb (qCr .node) (qAb (dRow .u8 5) (qAb zDJW2 dNil)))))
def zbj_l0 (self:qHd→(List Eng.Node)→Int→Option (qHd × Int)):SubQ:=mkL zbj_d0 (fun x=>zbj_p0 self x.1.2.2.1 x.1.2.2.2.2.1 x.2.1.1 x.2.2.1 x.2.2.2.1 x.2.2.2.2.1.1 x.2.2.2.2.1.2.2.2.2.2.1) fun x r R kn kx kr=>kn ⟨[sL 0 (.hd 0 0),sL 2 (.vI r.1)],[],[.cells 107 [.opt r.2.1 0 0,.own 3],.view .node x.2.2.1,.dead,.row .u8 5 r.2.2]⟩
def zbj_L (self:qHd→(List Eng.Node)→Int→Option (qHd × Int)):Nat→SubQ:=tblL [(2,zbj_l2 self),(1,zbj_l1 self),(0,zbj_l0 self)]
theorem zbj_sub2 (self:qHd→(List Eng.Node)→Int→Option (qHd × Int)):qBu (zbj_L self) (zbj_G self) 3 28 80 2 zbj_b2:=qA2 (show (zbj_L self) 2=(zbj_l2 self) from by kernel_rfl) fun x R kn kx kr=>by
 simp only [zbj_p2,-eq_self,qAd,qAg,obA,obS,slL,slR,qAc];kernel_rfl
theorem zbj_sub1 (self:qHd→(List Eng.Node)→Int→Option (qHd × Int)):qBu (zbj_L self) (zbj_G self) 3 28 80 1 zbj_b1:=qA2 (show (zbj_L self) 1=(zbj_l1 self) from by kernel_rfl) fun x R kn kx kr=>qA0 (step:=fun y=>qEc self y.1 x.1.2.2.2.2.2.1 y.2.1 y.2.2.1 x.2.2.1 x.2.2.2.2.1.1 y.2.2.2) (enc:=fun (y:Int × Int × Bool × (List Int))=>zbj_d1.e ((x.1.1,x.1.2.1,y.1,x.1.2.2.2.1,x.1.2.2.2.2.1,x.1.2.2.2.2.2.1,y.2.1,x.1.2.2.2.2.2.2.2),((y.2.2.1,x.2.1.2),x.2.2.1,x.2.2.2.1,x.2.2.2.2.1,y.2.2.2,x.2.2.2.2.2.2))) (fun y=>by kernel_rfl) (fun y ki=>by simp only [qEc,-eq_self,qAd,qAg,obA,obS,slL,slR,qAc]; kernel_rfl) (x.1.2.2.1,x.1.2.2.2.2.2.2.1,x.2.1.1,x.2.2.2.2.2.1)
theorem zbj_sub0 (self:qHd→(List Eng.Node)→Int→Option (qHd × Int)):qBu (zbj_L self) (zbj_G self) 3 28 80 0 zbj_b0:=qA2 (show (zbj_L self) 0=(zbj_l0 self) from by kernel_rfl) fun x R kn kx kr=>by
 simp only [zbj_p0,-eq_self,qAd,qAg,obA,obS,slL,slR,qAc];kernel_rfl
theorem zbj_subs (self:qHd→(List Eng.Node)→Int→Option (qHd × Int)):qAu (zbj_L self) (zbj_G self) 3 28 80 zbj_q:=qAn (show qAv (zbj_L self) (zbj_G self) 3 28 80 [(0,zbj_b0),(1,zbj_b1),(2,zbj_b2)] from ⟨(zbj_sub0 self),(zbj_sub1 self),(zbj_sub2 self),tV⟩)
theorem zbj_val_t (self:qHd→(List Eng.Node)→Int→Option (qHd × Int)) (hself:qAe Tryd.prog 80 (zbj_ws self)):qAp Tryd.prog 80 (zbj_cs (zbj_t self)):=qAs zbj_chk 28 (zbj_Gok self hself) 3 (fun x=>Nat.le_of_ble_eq_true rfl) (fun y=>rfl) (zbj_subs self) fun x y=>by
 simp only [zbj_t,-eq_self,qAd,qAg,obA,obS,slL,slR,qAc];kernel_rfl
def zbj_n:Nat→qHd→(List Eng.Node)→Int→Option (qHd × Int)
 | 0=>fun _ _ _=>none
 | n+1=>zbj_t (zbj_n n)
def zbj_s (b:qHd) (v:(List Eng.Node)) (at_:Int):Option (qHd × Int):=evt fun n=>zbj_n n b v at_
theorem zbj_valn:∀n,qAp Tryd.prog 80 (zbj_cs (zbj_n n))
 | 0=>qAp.zero fun args hp R k=>by
  show ((Dec.d zbj_da args).bind fun x=>(Dec.d zbj_db hp).bind fun y=>none)=none;cases Dec.d zbj_da args with
  | none=>rfl
  | some x=>cases Dec.d zbj_db hp <;> rfl
 | n+1=>zbj_val_t (zbj_n n) (qAx (zbj_valn n))
theorem zbj_val:qAp Tryd.prog 80 (zbj_cs zbj_s):=qAp.evt zbj_valn (fun args hp R k=>by
  show ((Dec.d zbj_da args).bind fun x=>(Dec.d zbj_db hp).bind fun y=>_)=(((Dec.d zbj_da args).bind fun x=>(Dec.d zbj_db hp).bind fun y=>_):Option (SV × List SB)).bind _;cases Dec.d zbj_da args with
  | none=>rfl
  | some x =>
   cases Dec.d zbj_db hp with
   | none=>rfl
   | some y=>simp only [obS,Option.bind_assoc]) fun args hp v hp' h=>by
  obtain ⟨x,h1,h2⟩:=Option.bind_eq_some_iff.1 h;obtain ⟨y,h3,h4⟩:=Option.bind_eq_some_iff.1 h2;obtain ⟨r,h5,h6⟩:=Option.bind_eq_some_iff.1 h4;obtain ⟨n,h7⟩:=evt_some h5;refine ⟨n,?_⟩;show ((Dec.d zbj_da args).bind fun x=>(Dec.d zbj_db hp).bind fun y=>_)=_;rw [h1];simp only [obS];rw [h3];simp only [obS];exact (congrArg (fun z=>Option.bind z _) h7).trans h6
def zbj_w:CQ:=zbj_ws zbj_s
theorem zbj_ok:qAe Tryd.prog 80 zbj_w:=qAx zbj_val
def zbp_q:IQ:=(.seq (rg 2 [oP 2 (.mv (vI 0))]) (.seq (rg 2 (rF 3 t0 1++[oP 7 (.len t6),oM 2 t7])) (.canon [(2000000,some 0,.u8,0)] [2] .ret)))
theorem zbp_chk:chk Tryd.prog 81 []=some (zbp_q.erase,[.tmp 2],8):=by kernel_rfl
def zbp_s (b:qHd):Option Int :=
 some (b.buf.length:Int)
def zbp_G:Nat→Option CQ:=tblQ []
theorem zbp_Gok:∀f C,zbp_G f=some C→qAe Tryd.prog f C:=fun f C h=>by cases h
def zbp_L:Nat→SubQ:=tblL []
theorem zbp_subs:qAu zbp_L zbp_G 2 3 8 zbp_q:=qAn (show qAv zbp_L zbp_G 2 3 8 [] from tV)
def zbp_da:=(qAb (dVC (dCO (dH 0 0))) dNil)
def zbp_db:=(qAb zDJW1 (qAb (qCr .u8) dNil))
def zbp_c:CS:=mkC zbp_da zbp_db (fun x y=>zbp_s (⟨y.1.1,y.2.1⟩:qHd)) (fun x y r=>.c (.o (.vI r))) fun x y r=>[.cells 107 [.opt y.1.1 0 0,.own 1],.view .u8 y.2.1]
theorem zbp_val:qAp Tryd.prog 81 zbp_c:=qAs zbp_chk 3 zbp_Gok 2 (fun x=>Nat.le_of_ble_eq_true rfl) (fun y=>rfl) zbp_subs fun x y=>by
 simp only [zbp_s,-eq_self,qAd,qAg,obA,obS,slL,slR,qAc];kernel_rfl
def zbp_w:CQ:=qCc [(0,some 0,none),(0,some 1,some (.u8,5))] (qC3 [true,false] zbp_c)
theorem zbp_ok:qAe Tryd.prog 81 zbp_w:=qAx zbp_val
def zbq_q:IQ:=(.seq (rg 2 [oP 2 (.mv (.v (.string ⟨#[]⟩)))]) (.seq (.reg 2 (some [0,1,2,3,4,5,6,7,8,9,10,11]) (rF 3 t0 1++[oP 7 (.ext .sdata [t6])]++rF 8 t0 1++[oP 12 (.len t11),oP 13 (.ext (.ustr 5) [t7,t12]),oM 2 t13])) (.canon [(2000000,some 0,.u8,0)] [2] .ret)))
theorem zbq_chk:chk Tryd.prog 82 []=some (zbq_q.erase,[.tmp 2],14):=by kernel_rfl
def zbq_s (b:qHd):Option (qHd × BA) :=
 gd (0<b.buf.length) <|
 gd ((b.buf.length:Int)=b.buf.length∧0<b.buf.length∧∀x∈b.buf,0≤x∧x<256) <|
 some ((⟨b.addr,[]⟩:qHd),(qAr b.buf))
def zbq_G:Nat→Option CQ:=tblQ []
theorem zbq_Gok:∀f C,zbq_G f=some C→qAe Tryd.prog f C:=fun f C h=>by cases h
def zbq_L:Nat→SubQ:=tblL []
theorem zbq_subs:qAu zbq_L zbq_G 2 3 14 zbq_q:=qAn (show qAv zbq_L zbq_G 2 3 14 [] from tV)
def zbq_da:=(qAb (dVC (dCO (dH 0 0))) dNil)
def zbq_db:=(qAb zDJW1 (qAb (dRow .u8 5) dNil))
def zbq_c:CS:=mkC zbq_da zbq_db (fun x y=>zbq_s (⟨y.1.1,y.2.1⟩:qHd)) (fun x y r=>.c (.o (.vS r.2))) fun x y r=>[.cells 107 [.opt r.1.addr 0 0,.own 1],.dead]
theorem zbq_val:qAp Tryd.prog 82 zbq_c:=qAs zbq_chk 3 zbq_Gok 2 (fun x=>Nat.le_of_ble_eq_true rfl) (fun y=>rfl) zbq_subs fun x y=>by
 simp only [zbq_s,-eq_self,qAd,qAg,obA,obS,slL,slR,qAc];kernel_rfl
def zbq_w:CQ:=qCc [(0,some 0,none),(0,some 1,some (.u8,5))] (qC3 [true,true] zbq_c)
theorem zbq_ok:qAe Tryd.prog 82 zbq_w:=qAx zbq_val
def zak_q:IQ:=(.seq (rg 3 [oP 2 (.mv (.v (.string ⟨#[]⟩))),oP 3 (.mv (vI 0))]) (.seq (.seq (rg 7 [oM 5 t0,oP 6 (.call 39 [t5]),oP 7 (.un .not t6)]) (.cond t7 (.seq (rg 3 [oP 2 (.mv (.v (.string ⟨#[]⟩))),oP 3 (.mv (vI 31))]) (.cn [2,3] .ret)) .skip)) (.seq (rg 4 [oP 4 (.alloc 107 [.pointer none,.slice none 0 0])]) (.seq (rg 9 [oM 8 t0,oP 9 (.call 80 [t4,t8,(vI 0)])]) (.seq (.seq (rg 11 [oP 10 (.call 81 [t4]),oP 11 (.bi .gtr t10 (vI 262144))]) (.cond t11 (.seq (rg 3 [oP 2 (.mv (.v (.string ⟨#[]⟩))),oP 3 (.mv (vI 10))]) (.cn [2,3] .ret)) .skip)) (.seq (rg 3 [oP 12 (.call 82 [t4]),oM 2 t12,oP 3 (.mv (vI 0))]) (.cn [2,3] .ret)))))))
theorem zak_chk:chk Tryd.prog 40 []=some (zak_q.erase,[.tmp 2,.tmp 3],13):=by kernel_rfl
def zak_s (v:(List Eng.Node)):Option (BA × Int) :=
 (zal_s v).bind fun r1 =>
 bif (!r1) then (
  some ((⟨#[]⟩:BA),(31:Int)))
 else (
  (zbj_s (⟨false,[]⟩:qHd) v (0:Int)).bind fun r2 =>
  (zbp_s r2.1).bind fun r3 =>
  bif decide ((262144:Int)<r3) then (
   some ((⟨#[]⟩:BA),(10:Int)))
  else (
   (zbq_s r2.1).bind fun r4 =>
   some (r4.2,(0:Int))))
def zak_G:Nat→Option CQ:=tblQ [(39,zal_w),(80,zbj_w),(81,zbp_w),(82,zbq_w)]
theorem zak_Gok:∀f C,zak_G f=some C→qAe Tryd.prog f C:=qAl ⟨zal_ok,zbj_ok,zbp_ok,zbq_ok,tV⟩
def zak_L:Nat→SubQ:=tblL []
theorem zak_subs:qAu zak_L zak_G 1 5 13 zak_q:=qAn (show qAv zak_L zak_G 1 5 13 [] from tV)
def zak_da:=(qAb (dVC (dCO (dO 0))) dNil)
def zak_db:=(qAb (qCr .node) dNil)
def zak_c:CS:=mkC zak_da zak_db (fun x y=>zak_s y.1) (fun x y r=>.tup [.o (.vS r.1),.o (.vI r.2)]) fun x y r=>[.view .node y.1]
theorem zak_val:qAp Tryd.prog 40 zak_c:=qAs zak_chk 5 zak_Gok 1 (fun x=>Nat.le_of_ble_eq_true rfl) (fun y=>rfl) zak_subs fun x y=>by
 simp only [zak_s,-eq_self,qAd,qAg,obA,obS,slL,slR,qAc];kernel_rfl
def zak_w:CQ:=qCc [(0,none,some (.node,36))] (qEg [false] zak_c)
theorem zak_ok:qAe Tryd.prog 40 zak_w:=prep_quiet zak_val
def zbl_q:IQ:=(.seq (rg 0 [oP 0 (.mv vF)]) (.seq (rg 3 [oP 7 (.call 42 [(.v (.string ⟨#[32,123,34,97,34,58,91,49,44,34,92,117,48,48,101,57,34,93,125,32]⟩))]),oM 6 t7,oP 8 (.extract t6 0),oP 9 (.extract t6 1),oP 10 (.extract t6 2),oM 1 t8,oM 2 t9,oM 3 t10]) (.seq (rg 5 [oM 12 t1,oP 13 (.call 40 [t12]),oM 11 t13,oP 14 (.extract t11 0),oP 15 (.extract t11 1),oM 4 t14,oM 5 t15]) (.seq (rg 0 [oM 16 t2,oP 17 (.bi .eql t16 (vI 0)),oM 18 t17,oF 19 (.mv t5) 18,oF 20 (.bi .eql t19 (vI 0)) 18,oP 21 (.pick t18 t20 vF),oM 22 t21,oF 23 (.mv t1) 22,oF 24 (.len t23) 22,oF 25 (.bi .eql t24 (vI 4)) 22,oP 26 (.pick t22 t25 vF),oM 27 t26,oF 28 (.mv t1) 27,oF 29 (.iaddr 6 t28 (vI 1)) 27,oF 30 (.faddr 1 t29) 27,oF 31 (.load none t30) 27,oF 32 (.bi .eql t31 (.v (.string ⟨#[97]⟩))) 27,oP 33 (.pick t27 t32 vF),oM 34 t33,oF 35 (.mv t1) 34,oF 36 (.iaddr 6 t35 (vI 2)) 34,oF 37 (.faddr 4 t36) 34,oF 38 (.load none t37) 34,oF 39 (.bi .eql t38 (vI 1)) 34,oP 40 (.pick t34 t39 vF),oM 41 t40,oF 42 (.mv t1) 41,oF 43 (.iaddr 6 t42 (vI 3)) 41,oF 44 (.faddr 2 t43) 41,oF 45 (.load none t44) 41,oF 46 (.bi .eql t45 (.v (.string ⟨#[195,169]⟩))) 41,oP 47 (.pick t41 t46 vF),oM 48 t47,oF 49 (.mv t4) 48,oF 50 (.bi .eql t49 (.v (.string ⟨#[123,34,97,34,58,91,49,44,34,195,169,34,93,125]⟩))) 48,oP 51 (.pick t48 t50 vF),oM 52 t51,oF 53 (.mv t1) 52,oF 54 (.call 24 [t53,(vI 0),(.v (.string ⟨#[97]⟩))]) 52,oF 55 (.bi .eql t54 (vI 1)) 52,oP 56 (.pick t52 t55 vF),oM 0 t56]) (.cn [0] .ret)))))
theorem zbl_chk:chk Tryd.prog 45 []=some (zbl_q.erase,[.tmp 0],57):=by kernel_rfl
def zbl_s:Option Bool :=
 (zaj_s (⟨#[32,123,34,97,34,58,91,49,44,34,92,117,48,48,101,57,34,93,125,32]⟩:BA)).bind fun r1 =>
 (zak_s r1.1).bind fun r2 =>
 gd ((((decide (r1.2.1=(0:Int))) && (decide (r2.2=(0:Int)))) && (decide ((r1.1.length:Int)=(4:Int))))=true→0≤(1:Int)∧(1:Int)<r1.1.length) <|
 gd ((((decide (r1.2.1=(0:Int))) && (decide (r2.2=(0:Int)))) && (decide ((r1.1.length:Int)=(4:Int))))=true→(Int.toNat (1:Int))<r1.1.length) <|
 gd ((((decide (r1.2.1=(0:Int))) && (decide (r2.2=(0:Int)))) && (decide ((r1.1.length:Int)=(4:Int))))=true→(Int.toNat (1:Int))<r1.1.length) <|
 gd (((((decide (r1.2.1=(0:Int))) && (decide (r2.2=(0:Int)))) && (decide ((r1.1.length:Int)=(4:Int)))) && (decide (((r1.1.getD (Int.toNat (1:Int)) (ET.dft .node)).key)=(⟨#[97]⟩:BA))))=true→0≤(2:Int)∧(2:Int)<r1.1.length) <|
 gd (((((decide (r1.2.1=(0:Int))) && (decide (r2.2=(0:Int)))) && (decide ((r1.1.length:Int)=(4:Int)))) && (decide (((r1.1.getD (Int.toNat (1:Int)) (ET.dft .node)).key)=(⟨#[97]⟩:BA))))=true→(Int.toNat (2:Int))<r1.1.length) <|
 gd (((((decide (r1.2.1=(0:Int))) && (decide (r2.2=(0:Int)))) && (decide ((r1.1.length:Int)=(4:Int)))) && (decide (((r1.1.getD (Int.toNat (1:Int)) (ET.dft .node)).key)=(⟨#[97]⟩:BA))))=true→(Int.toNat (2:Int))<r1.1.length) <|
 gd ((((((decide (r1.2.1=(0:Int))) && (decide (r2.2=(0:Int)))) && (decide ((r1.1.length:Int)=(4:Int)))) && (decide (((r1.1.getD (Int.toNat (1:Int)) (ET.dft .node)).key)=(⟨#[97]⟩:BA)))) && (decide (((r1.1.getD (Int.toNat (2:Int)) (ET.dft .node)).int)=(1:Int))))=true→0≤(3:Int)∧(3:Int)<r1.1.length) <|
 gd ((((((decide (r1.2.1=(0:Int))) && (decide (r2.2=(0:Int)))) && (decide ((r1.1.length:Int)=(4:Int)))) && (decide (((r1.1.getD (Int.toNat (1:Int)) (ET.dft .node)).key)=(⟨#[97]⟩:BA)))) && (decide (((r1.1.getD (Int.toNat (2:Int)) (ET.dft .node)).int)=(1:Int))))=true→(Int.toNat (3:Int))<r1.1.length) <|
 gd ((((((decide (r1.2.1=(0:Int))) && (decide (r2.2=(0:Int)))) && (decide ((r1.1.length:Int)=(4:Int)))) && (decide (((r1.1.getD (Int.toNat (1:Int)) (ET.dft .node)).key)=(⟨#[97]⟩:BA)))) && (decide (((r1.1.getD (Int.toNat (2:Int)) (ET.dft .node)).int)=(1:Int))))=true→(Int.toNat (3:Int))<r1.1.length) <|
 bif (((((((decide (r1.2.1=(0:Int))) && (decide (r2.2=(0:Int)))) && (decide ((r1.1.length:Int)=(4:Int)))) && (decide (((r1.1.getD (Int.toNat (1:Int)) (ET.dft .node)).key)=(⟨#[97]⟩:BA)))) && (decide (((r1.1.getD (Int.toNat (2:Int)) (ET.dft .node)).int)=(1:Int)))) && (decide (((r1.1.getD (Int.toNat (3:Int)) (ET.dft .node)).text)=(⟨#[195,169]⟩:BA)))) && (decide (r2.1=(⟨#[123,34,97,34,58,91,49,44,34,195,169,34,93,125]⟩:BA)))) then (
  (zai_s r1.1 (0:Int) (⟨#[97]⟩:BA)).bind fun r3 =>
  some (decide (r3=(1:Int))))
 else (
  some false)
def zbl_G:Nat→Option CQ:=tblQ [(42,zaj_w),(40,zak_w),(24,zai_w)]
theorem zbl_Gok:∀f C,zbl_G f=some C→qAe Tryd.prog f C:=qAl ⟨zaj_ok,zak_ok,zai_ok,tV⟩
def zbl_L:Nat→SubQ:=tblL []
theorem zbl_subs:qAu zbl_L zbl_G 0 6 57 zbl_q:=qAn (show qAv zbl_L zbl_G 0 6 57 [] from tV)
def zbl_da:=(dNil:Dec Unit (List SV))
def zbl_db:=(dNil:Dec Unit (List SB))
def zbl_c:CS:=mkC zbl_da zbl_db (fun x y=>zbl_s) (fun x y r=>.c (.o (.vB r))) fun x y r=>[]
theorem zbl_val:qAp Tryd.prog 45 zbl_c:=qAs zbl_chk 6 zbl_Gok 0 (fun x=>Nat.le_of_ble_eq_true rfl) (fun y=>rfl) zbl_subs fun x y=>by
 simp only [zbl_s,-eq_self,qAd,qAg,obA,obS,slL,slR,qAc];kernel_rfl
def zbl_w:CQ:=qEg [] zbl_c
theorem zbl_ok:qAe Tryd.prog 45 zbl_w:=qAz zbl_val
def zbm_b1:IQ:=(.join [(3,none,.u8,5)] [0,3,4,5] (rg 5 [oM 12 t5,oP 13 (.bi .add t12 (vI 1)),oM 5 t13]))
def zbm_b0:IQ:=(.loop [0,3,4,5] (.seq (.seq (rg 11 [oM 8 t5,oM 9 t0,oP 10 (.lenS t9),oP 11 (.bi .lss t8 t10)]) (.cond t11 .skip (.cn [3] (.exit 0)))) (.seq (.block 1 (.block 2 (.seq (rg 14 [oM 15 t4,oM 16 t15,oF 17 (.mv t0) 16,oF 18 (.mv t5) 16,oF 19 (.index t17 t18) 16,oF 20 (.bi .eql t19 (vC 92)) 16,oP 21 (.pick t16 t20 vF),oM 14 t21]) (.cond t14 (rg 5 [oM 22 t5,oP 23 (.bi .add t22 (vI 1)),oM 5 t23]) (.seq (rg 24 [oM 25 t0,oM 26 t5,oP 27 (.index t25 t26),oP 28 (.bi .eql t27 (vC 34)),oM 24 t28]) (.cond t24 (rg 4 [oM 29 t4,oP 30 (.un .not t29),oM 4 t30]) (.seq (rg 31 [oM 32 t4,oM 31 t32]) (.cond t31 .skip (.seq (rg 33 [oM 34 t0,oM 35 t5,oP 36 (.index t34 t35),oP 37 (.bi .eql t36 (vC 91)),oM 33 t37]) (.cond t33 (rg 3 [oM 38 t3,oP 39 (.bslice 5 1 1 [.int .u8 0] [(0,(vC 93))]),oP 40 (.append 5 1 1 [.int .u8 0] t38 t39),oM 3 t40]) (.seq (rg 41 [oM 42 t0,oM 43 t5,oP 44 (.index t42 t43),oP 45 (.bi .eql t44 (vC 123)),oM 41 t45]) (.cond t41 (rg 3 [oM 46 t3,oP 47 (.bslice 5 1 1 [.int .u8 0] [(0,(vC 125))]),oP 48 (.append 5 1 1 [.int .u8 0] t46 t47),oM 3 t48]) (.seq (rg 49 [oM 50 t0,oM 51 t5,oP 52 (.index t50 t51),oP 53 (.bi .eql t52 (vC 93)),oM 54 t53,oE 55 (.mv t0) 54,oE 56 (.mv t5) 54,oE 57 (.index t55 t56) 54,oE 58 (.bi .eql t57 (vC 125)) 54,oP 59 (.pick t54 vT t58),oM 49 t59]) (.cond t49 (.seq (rg 62 [oM 60 t3,oP 61 (.len t60),oP 62 (.bi .gtr t61 (vI 0))]) (.cond t62 (rg 3 [oM 63 t3,oM 64 t3,oP 65 (.len t64),oP 66 (.bi .sub t65 (vI 1)),oP 67 (.sub (some 1) t63 none (some t66)),oM 3 t67]) .skip)) .skip)))))))))))))) (.canon [(3,none,.u8,5)] [0,3,4,5] (.sub 1 zbm_b1)))))
def zbm_b2:IQ:=(.loop [3,6,7] (.seq (.seq (rg 72 [oM 71 t7,oP 72 (.bi .geq t71 (vI 0))]) (.cond t72 .skip (.cn [6] (.exit 3)))) (.seq (.block 4 (rg 6 [oM 75 t6,oM 76 t3,oM 77 t7,oP 78 (.iaddr 1 t76 t77),oP 79 (.load none t78),oP 80 (.bslice 5 1 1 [.int .u8 0] [(0,t79)]),oP 81 (.append 5 1 1 [.int .u8 0] t75 t80),oM 6 t81])) (rg 7 [oM 73 t7,oP 74 (.bi .sub t73 (vI 1)),oM 7 t74]))))
def zbm_q:IQ:=(.seq (rg 2 [oP 2 (.mv (.v (.string ⟨#[]⟩)))]) (.seq (rg 3 [oP 3 (.mv (.v (.slice none 0 0)))]) (.seq (rg 4 [oP 4 (.mv vF)]) (.seq (.seq (rg 5 [oP 5 (.mv (vI 0))]) (.block 0 (.canon [(3,none,.u8,5)] [0,3,4,5] (.sub 0 zbm_b0)))) (.seq (rg 6 [oP 6 (.mv (.v (.slice none 0 0)))]) (.seq (.seq (rg 7 [oM 68 t3,oP 69 (.len t68),oP 70 (.bi .sub t69 (vI 1)),oM 7 t70]) (.block 3 (.canon [(6,none,.u8,5)] [3,6,7] (.sub 2 zbm_b2)))) (.seq (rg 2 [oM 82 t6,oP 83 (.ext .toStr [t82]),oM 2 t83]) (.cn [2] .ret))))))))
theorem zbm_chk:chk Tryd.prog 88 []=some (zbm_q.erase,[.tmp 2],84):=by kernel_rfl
def zbm_p1 (i:Int):Option Int :=
 gd (qAh (i+(1:Int))) <|
 some (i+(1:Int))
def qB6 (text:BA) (in_:Bool) (i:Int) (open_:List Int):Option ((Bool × Int × (List Int)) ⊕ ((List Int))) :=
 bif decide (i<(text.size:Int)) then (
  gd (in_=true→0≤i∧i<text.size) <|
  bif (in_ && (decide ((bAt text i)=(92:Int)))) then (
   gd (qAh (i+(1:Int))) <|
   (zbm_p1 (i+(1:Int))).bind fun o39 =>
   some (.inl (in_,o39,open_)))
  else (
   gd (0≤i∧i<text.size) <|
   bif decide ((bAt text i)=(34:Int)) then (
    (zbm_p1 i).bind fun o40 =>
    some (.inl ((!in_),o40,open_)))
   else (
    bif in_ then (
     (zbm_p1 i).bind fun o41 =>
     some (.inl (in_,o41,open_)))
    else (
     gd (0≤i∧i<text.size) <|
     bif decide ((bAt text i)=(91:Int)) then (
      gd (open_.length+([(93:Int)]:List Int).length≤9223372036854775807∧(open_.length+([(93:Int)]:List Int).length)*1≤140737488355328) <|
      (zbm_p1 i).bind fun o42 =>
      some (.inl (in_,o42,(open_++[(93:Int)]))))
     else (
      gd (0≤i∧i<text.size) <|
      bif decide ((bAt text i)=(123:Int)) then (
       gd (open_.length+([(125:Int)]:List Int).length≤9223372036854775807∧(open_.length+([(125:Int)]:List Int).length)*1≤140737488355328) <|
       (zbm_p1 i).bind fun o43 =>
       some (.inl (in_,o43,(open_++[(125:Int)]))))
      else (
       gd (0≤i∧i<text.size) <|
       gd ((decide ((bAt text i)=(93:Int)))=false→0≤i∧i<text.size) <|
       bif ((decide ((bAt text i)=(93:Int))) || (decide ((bAt text i)=(125:Int)))) then (
        bif decide ((0:Int)<(open_.length:Int)) then (
         gd (qAh ((open_.length:Int) - (1:Int))) <|
         gd (0≤((open_.length:Int) - (1:Int))∧((open_.length:Int) - (1:Int))≤open_.length) <|
         (zbm_p1 i).bind fun o44 =>
         some (.inl (in_,o44,(open_.take (Int.toNat ((open_.length:Int) - (1:Int)))))))
        else (
         (zbm_p1 i).bind fun o45 =>
         some (.inl (in_,o45,open_))))
       else (
        (zbm_p1 i).bind fun o46 =>
        some (.inl (in_,o46,open_)))))))))
 else (
  some (.inr open_))
def zbm_p0 (text:BA) (in_:Bool) (i:Int) (open_:List Int):Option ((List Int)) :=
 qBj (fun x:(Bool × Int × (List Int))=>qB6 text x.1 x.2.1 x.2.2) (in_,i,open_)
def qEj (i:Int) (open_ out:List Int):Option ((Int × (List Int)) ⊕ ((List Int))) :=
 bif decide ((0:Int)≤i) then (
  gd (0≤i∧i<open_.length) <|
  gd ((Int.toNat i)<open_.length) <|
  gd (out.length+([(open_.getD (Int.toNat i) (ET.dft .u8))]:List Int).length≤9223372036854775807∧(out.length+([(open_.getD (Int.toNat i) (ET.dft .u8))]:List Int).length)*1≤140737488355328) <|
  gd (qAh (i - (1:Int))) <|
  some (.inl ((i - (1:Int)),(out++[(open_.getD (Int.toNat i) (ET.dft .u8))]))))
 else (
  some (.inr out))
def zbm_p2 (i:Int) (open_ out:List Int):Option ((List Int)) :=
 qBj (fun x:(Int × (List Int))=>qEj x.1 open_ x.2) (i,out)
def zbm_s (text:BA):Option BA :=
 (zbm_p0 text false (0:Int) []).bind fun o47 =>
 gd (qAh ((o47.length:Int) - (1:Int))) <|
 (zbm_p2 ((o47.length:Int) - (1:Int)) o47 []).bind fun o48 =>
 some (qAr o48)
def zbm_G:Nat→Option CQ:=tblQ []
theorem zbm_Gok:∀f C,zbm_G f=some C→qAe Tryd.prog f C:=fun f C h=>by cases h
def zbm_d1:=(dQS (qAb (dSO 0 dS) (qAb (dSO 3 (dO 0)) (qAb (dSO 4 dB) (qAb (dSO 5 dZ) dNil)))) (qAb (dRow .u8 5) dNil))
def zbm_l1:SubQ:=mkL zbm_d1 (fun x=>zbm_p1 x.1.2.2.2.1) fun x r R kn kx kr=>kn ⟨[sL 0 (.vS x.1.1),sL 3 (.own 0),sL 4 (.vB x.1.2.2.1),sL 5 (.vI r)],[],[.row .u8 5 x.2.1]⟩
def zbm_d0:=(dQS (qAb (dSO 0 dS) (qAb (dSO 3 (dO 0)) (qAb (dSO 4 dB) (qAb (dSO 5 dZ) dNil)))) (qAb (dRow .u8 5) dNil))
def zbm_l0:SubQ:=mkL zbm_d0 (fun x=>zbm_p0 x.1.1 x.1.2.2.1 x.1.2.2.2.1 x.2.1) fun x r R kn kx kr=>kx 0 ⟨[sL 3 (.own 0)],[],[.row .u8 5 r]⟩
def zbm_d2:=(dQS (qAb (dSO 3 (dO 0)) (qAb (dSO 6 (dO 1)) (qAb (dSO 7 dZ) dNil))) (qAb (dRow .u8 5) (qAb (dRow .u8 5) dNil)))
def zbm_l2:SubQ:=mkL zbm_d2 (fun x=>zbm_p2 x.1.2.2.1 x.2.1 x.2.2.1) fun x r R kn kx kr=>kx 3 ⟨[sL 6 (.own 0)],[],[.row .u8 5 r]⟩
def zbm_L:Nat→SubQ:=tblL [(1,zbm_l1),(0,zbm_l0),(2,zbm_l2)]
theorem zbm_sub1:qBu zbm_L zbm_G 0 8 84 1 zbm_b1:=qA2 (show zbm_L 1=zbm_l1 from by kernel_rfl) fun x R kn kx kr=>by
 simp only [zbm_p1,-eq_self,qAd,qAg,obA,obS,slL,slR,qAc];kernel_rfl
theorem zbm_sub0:qBu zbm_L zbm_G 0 8 84 0 zbm_b0:=qA2 (show zbm_L 0=zbm_l0 from by kernel_rfl) fun x R kn kx kr=>qA0 (step:=fun y=>qB6 x.1.1 y.1 y.2.1 y.2.2) (enc:=fun (y:Bool × Int × (List Int))=>zbm_d0.e ((x.1.1,x.1.2.1,y.1,y.2.1,x.1.2.2.2.2),(y.2.2,x.2.2))) (fun y=>by kernel_rfl) (fun y ki=>by simp only [qB6,-eq_self,qAd,qAg,obA,obS,slL,slR,qAc]; kernel_rfl) (x.1.2.2.1,x.1.2.2.2.1,x.2.1)
theorem zbm_sub2:qBu zbm_L zbm_G 0 8 84 2 zbm_b2:=qA2 (show zbm_L 2=zbm_l2 from by kernel_rfl) fun x R kn kx kr=>qA0 (step:=fun y=>qEj y.1 x.2.1 y.2) (enc:=fun (y:Int × (List Int))=>zbm_d2.e ((x.1.1,x.1.2.1,y.1,x.1.2.2.2),(x.2.1,y.2,x.2.2.2))) (fun y=>by kernel_rfl) (fun y ki=>by simp only [qEj,-eq_self,qAd,qAg,obA,obS,slL,slR,qAc]; kernel_rfl) (x.1.2.2.1,x.2.2.1)
theorem zbm_subs:qAu zbm_L zbm_G 0 8 84 zbm_q:=qAn (show qAv zbm_L zbm_G 0 8 84 [(0,zbm_b0),(1,zbm_b1),(2,zbm_b2)] from ⟨zbm_sub0,zbm_sub1,zbm_sub2,tV⟩)
def zbm_da:=(qAb (dVC (dCO dS)) dNil)
def zbm_db:=(dNil:Dec Unit (List SB))
def zbm_c:CS:=mkC zbm_da zbm_db (fun x y=>zbm_s x.1) (fun x y r=>.c (.o (.vS r))) fun x y r=>[]
theorem zbm_val:qAp Tryd.prog 88 zbm_c:=qAs zbm_chk 8 zbm_Gok 0 (fun x=>Nat.le_of_ble_eq_true rfl) (fun y=>rfl) zbm_subs fun x y=>by
 simp only [zbm_s,-eq_self,qAd,qAg,obA,obS,slL,slR,qAc];kernel_rfl
def zbm_w:CQ:=qEg [] zbm_c
theorem zbm_ok:qAe Tryd.prog 88 zbm_w:=qAz zbm_val
def zbo_q:IQ:=(.seq (rg 0 [oP 0 (.mv (.v (.slice none 0 0)))]) (.seq (rg 0 [oP 1 (.bslice 9 1 28 [.string ⟨#[]⟩] [(0,(.v (.string ⟨#[]⟩))),(1,(.v (.string ⟨#[48]⟩))),(2,(.v (.string ⟨#[110]⟩))),(3,(.v (.string ⟨#[117,48,48,48,48]⟩))),(4,(.v (.string ⟨#[48,48,48,48]⟩))),(5,(.v (.string ⟨#[48,48,48]⟩))),(6,(.v (.string ⟨#[48,48]⟩))),(7,(.v (.string ⟨#[48]⟩))),(8,(.v (.string ⟨#[48,48,92,117,100,99,48,48]⟩))),(9,(.v (.string ⟨#[48,92,117,100,99,48,48]⟩))),(10,(.v (.string ⟨#[92,117,100,99,48,48]⟩))),(11,(.v (.string ⟨#[117,100,99,48,48]⟩))),(12,(.v (.string ⟨#[100,99,48,48]⟩))),(13,(.v (.string ⟨#[99,48,48]⟩))),(14,(.v (.string ⟨#[128]⟩))),(15,(.v (.string ⟨#[128,128]⟩))),(16,(.v (.string ⟨#[128,128,128]⟩))),(17,(.v (.string ⟨#[160,128]⟩))),(18,(.v (.string ⟨#[144,128,128]⟩))),(19,(.v (.string ⟨#[117,108,108]⟩))),(20,(.v (.string ⟨#[108,108]⟩))),(21,(.v (.string ⟨#[108]⟩))),(22,(.v (.string ⟨#[114,117,101]⟩))),(23,(.v (.string ⟨#[117,101]⟩))),(24,(.v (.string ⟨#[101]⟩))),(25,(.v (.string ⟨#[97,108,115,101]⟩))),(26,(.v (.string ⟨#[108,115,101]⟩))),(27,(.v (.string ⟨#[115,101]⟩)))]),oM 0 t1]) (.canon [(0,none,.str,9)] [0] .ret)))
theorem zbo_chk:chk Tryd.prog 89 []=some (zbo_q.erase,[.tmp 0],2):=by kernel_rfl
def zbo_s:Option ((List BA)) :=
 some [(⟨#[]⟩:BA),(⟨#[48]⟩:BA),(⟨#[110]⟩:BA),(⟨#[117,48,48,48,48]⟩:BA),(⟨#[48,48,48,48]⟩:BA),(⟨#[48,48,48]⟩:BA),(⟨#[48,48]⟩:BA),(⟨#[48]⟩:BA),(⟨#[48,48,92,117,100,99,48,48]⟩:BA),(⟨#[48,92,117,100,99,48,48]⟩:BA),(⟨#[92,117,100,99,48,48]⟩:BA),(⟨#[117,100,99,48,48]⟩:BA),(⟨#[100,99,48,48]⟩:BA),(⟨#[99,48,48]⟩:BA),(⟨#[128]⟩:BA),(⟨#[128,128]⟩:BA),(⟨#[128,128,128]⟩:BA),(⟨#[160,128]⟩:BA),(⟨#[144,128,128]⟩:BA),(⟨#[117,108,108]⟩:BA),(⟨#[108,108]⟩:BA),(⟨#[108]⟩:BA),(⟨#[114,117,101]⟩:BA),(⟨#[117,101]⟩:BA),(⟨#[101]⟩:BA),(⟨#[97,108,115,101]⟩:BA),(⟨#[108,115,101]⟩:BA),(⟨#[115,101]⟩:BA)]
def zbo_G:Nat→Option CQ:=tblQ []
theorem zbo_Gok:∀f C,zbo_G f=some C→qAe Tryd.prog f C:=fun f C h=>by cases h
def zbo_L:Nat→SubQ:=tblL []
theorem zbo_subs:qAu zbo_L zbo_G 0 1 2 zbo_q:=qAn (show qAv zbo_L zbo_G 0 1 2 [] from tV)
def zbo_da:=(dNil:Dec Unit (List SV))
def zbo_db:=(dNil:Dec Unit (List SB))
def zbo_c:CS:=mkC zbo_da zbo_db (fun x y=>zbo_s) (fun x y r=>.c (.o (.own 0))) fun x y r=>[.row .str 9 r]
theorem zbo_val:qAp Tryd.prog 89 zbo_c:=qAs zbo_chk 1 zbo_Gok 0 (fun x=>Nat.le_of_ble_eq_true rfl) (fun y=>rfl) zbo_subs fun x y=>by
 simp only [zbo_s,-eq_self,qAd,qAg,obA,obS,slL,slR,qAc];kernel_rfl
def zbo_w:CQ:=qC3 [] zbo_c
theorem zbo_ok:qAe Tryd.prog 89 zbo_w:=liftQ_valid zbo_val
def zbn_b0:IQ:=(.loop [0,3,4] (.seq (.seq (rg 20 [oM 17 t4,oM 18 t3,oP 19 (.len t18),oP 20 (.bi .lss t17 t19)]) (.cond t20 .skip (.cn [0,3] (.exit 0)))) (.seq (.block 1 (rg 0 [oM 23 t3,oM 24 t4,oP 25 (.iaddr 1 t23 t24),oN (.store 1 t25 (vC 122))])) (rg 4 [oM 21 t4,oP 22 (.bi .add t21 (vI 1)),oM 4 t22]))))
def zbn_b2:IQ:=(.loop [0,5,6,7,8,9] (.seq (.seq (rg 46 [oM 43 t9,oM 44 t6,oP 45 (.len t44),oP 46 (.bi .lss t43 t45)]) (.cond t46 .skip (.cn [0,5,6,7,8] (.exit 4)))) (.seq (.block 5 (.seq (.reg 12 (some [0,1,2,3,4,5,6,7,8,9,10,11,12,13,14,15,16,17,18,19,20]) [oM 50 t0,oM 51 t7,oM 52 t8,oP 53 (.iaddr 1 t51 t52),oP 54 (.load none t53),oP 55 (.bi .add t50 t54),oM 56 t6,oM 57 t9,oP 58 (.iaddr 1 t56 t57),oP 59 (.load none t58),oP 60 (.bi .add t55 t59),oM 61 t5,oP 62 (.bi .add t60 t61),oP 63 (.call 42 [t62]),oM 49 t63,oP 64 (.extract t49 0),oP 65 (.extract t49 1),oP 66 (.extract t49 2),oM 10 t64,oM 11 t65,oM 12 t66]) (.seq (rg 68 [oM 67 t11,oP 68 (.bi .eql t67 (vI 0))]) (.cond t68 (.seq (rg 2 [oP 2 (.mv vT)]) (.cn [2] .ret)) .skip)))) (rg 9 [oM 47 t9,oP 48 (.bi .add t47 (vI 1)),oM 9 t48]))))
def zbn_b1:IQ:=(.loop [0,5,6,7,8] (.seq (.seq (rg 40 [oM 37 t8,oM 38 t7,oP 39 (.len t38),oP 40 (.bi .lss t37 t39)]) (.cond t40 .skip (.cn [] (.exit 2)))) (.seq (.block 3 (.seq (rg 9 [oP 9 (.mv (vI 0))]) (.block 4 (.cn [0,5,6,7,8,9] (.sub 2 zbn_b2))))) (rg 8 [oM 41 t8,oP 42 (.bi .add t41 (vI 1)),oM 8 t42]))))
def zbn_q:IQ:=(.seq (rg 2 [oP 2 (.mv vF)]) (.seq (rg 3 [oM 13 t0,oP 14 (.lenS t13),oP 15 (.bi .add t14 (vI 1)),oP 16 (.ext (.mkslice 5 1 1 [.int .u8 0]) [t15,t15]),oM 3 t16]) (.seq (.seq (rg 4 [oP 4 (.mv (vI 0))]) (.block 0 (.cn [0,3,4] (.sub 0 zbn_b0)))) (.seq (rg 5 [oM 26 t0,oP 27 (.call 88 [t26]),oM 5 t27]) (.seq (rg 6 [oM 28 t3,oP 29 (.ext .toStr [t28]),oP 30 (.bi .add t29 (.v (.string ⟨#[34,58,48]⟩))),oM 31 t3,oP 32 (.ext .toStr [t31]),oP 33 (.bi .add (.v (.string ⟨#[34]⟩)) t32),oP 34 (.bi .add t33 (.v (.string ⟨#[34,58,48]⟩))),oP 35 (.bslice 9 1 5 [.string ⟨#[]⟩] [(0,(.v (.string ⟨#[]⟩))),(1,(.v (.string ⟨#[34]⟩))),(2,t30),(3,(.v (.string ⟨#[58,48]⟩))),(4,t34)]),oM 6 t35]) (.seq (rg 7 [oP 36 (.call 89 []),oM 7 t36]) (.seq (.seq (rg 8 [oP 8 (.mv (vI 0))]) (.block 2 (.cn [0,5,6,7,8] (.sub 1 zbn_b1)))) (.seq (rg 2 [oP 2 (.mv vF)]) (.cn [2] .ret)))))))))
theorem zbn_chk:chk Tryd.prog 47 []=some (zbn_q.erase,[.tmp 2],69):=by kernel_rfl
def qD7 (i:Int) (own:List Int):Option ((Int × (List Int)) ⊕ ((List Int))) :=
 bif decide (i<(own.length:Int)) then (
  gd (0≤i∧i<own.length) <|
  gd ((Int.toNat i)<own.length) <|
  gd (qAh (i+(1:Int))) <|
  some (.inl ((i+(1:Int)),(own.set (Int.toNat i) (122:Int)))))
 else (
  some (.inr own))
def zbn_p0 (i:Int) (own:List Int):Option ((List Int)) :=
 qBj (fun x:(Int × (List Int))=>qD7 x.1 x.2) (i,own)
def qEi (text end_:BA) (i j:Int) (behind words:List BA):Option (Int ⊕ (Bool ⊕ Unit)) :=
 bif decide (j<(behind.length:Int)) then (
  gd (0≤i∧i<words.length) <|
  gd ((Int.toNat i)<words.length) <|
  gd (text.size+(words.getD (Int.toNat i) (ET.dft .str)).size≤9223372036854775807) <|
  gd (0≤j∧j<behind.length) <|
  gd ((Int.toNat j)<behind.length) <|
  gd ((text++(words.getD (Int.toNat i) (ET.dft .str))).size+(behind.getD (Int.toNat j) (ET.dft .str)).size≤9223372036854775807) <|
  gd (((text++(words.getD (Int.toNat i) (ET.dft .str)))++(behind.getD (Int.toNat j) (ET.dft .str))).size+end_.size≤9223372036854775807) <|
  (zaj_s (((text++(words.getD (Int.toNat i) (ET.dft .str)))++(behind.getD (Int.toNat j) (ET.dft .str)))++end_)).bind fun r13 =>
  gd (([.row .str 9 behind,.row .str 9 words]:List SB)=[.row .str 9 behind,.row .str 9 words]) <|
  bif decide (r13.2.1=(0:Int)) then (
   some (.inr (.inl true)))
  else (
   gd (qAh (j+(1:Int))) <|
   some (.inl (j+(1:Int)))))
 else (
  some (.inr (.inr ())))
def zbn_p2 (text end_:BA) (i j:Int) (behind words:List BA):Option (Bool ⊕ Unit) :=
 qBj (fun x:Int=>qEi text end_ i x behind words) j
def qFw (text end_:BA) (i:Int) (behind words:List BA):Option (Int ⊕ (Bool ⊕ Unit)) :=
 bif decide (i<(words.length:Int)) then (
  (zbn_p2 text end_ i (0:Int) behind words).bind fun o14=>(Sum.elim (fun (o14_0:Bool) =>
   some (.inr (.inl o14_0))) (fun (o14_1:Unit) =>
   gd (qAh (i+(1:Int))) <|
   some (.inl (i+(1:Int))))) o14)
 else (
  some (.inr (.inr ())))
def zbn_p1 (text end_:BA) (i:Int) (behind words:List BA):Option (Bool ⊕ Unit) :=
 qBj (fun x:Int=>qFw text end_ x behind words) i
def zbn_s (text:BA):Option Bool :=
 gd (qAh ((text.size:Int)+(1:Int))) <|
 gd (0≤((text.size:Int)+(1:Int))∧((text.size:Int)+(1:Int))≤((text.size:Int)+(1:Int))∧((text.size:Int)+(1:Int))≤9223372036854775807∧((text.size:Int)+(1:Int))*1≤140737488355328) <|
 (zbn_p0 (0:Int) (List.replicate (Int.toNat ((text.size:Int)+(1:Int))) (0:Int))).bind fun o10 =>
 (zbm_s text).bind fun r11 =>
 gd ((qAr o10).size+(⟨#[34,58,48]⟩:BA).size≤9223372036854775807) <|
 gd ((⟨#[34]⟩:BA).size+(qAr o10).size≤9223372036854775807) <|
 gd (((⟨#[34]⟩:BA)++(qAr o10)).size+(⟨#[34,58,48]⟩:BA).size≤9223372036854775807) <|
 (zbo_s).bind fun r12 =>
 (zbn_p1 text r11 (0:Int) [(⟨#[]⟩:BA),(⟨#[34]⟩:BA),((qAr o10)++(⟨#[34,58,48]⟩:BA)),(⟨#[58,48]⟩:BA),(((⟨#[34]⟩:BA)++(qAr o10))++(⟨#[34,58,48]⟩:BA))] r12).bind fun o15=>(Sum.elim (fun (o15_0:Bool) =>
  some o15_0) (fun (o15_1:Unit) =>
  some false)) o15
def zbn_G:Nat→Option CQ:=tblQ [(88,zbm_w),(89,zbo_w),(42,zaj_w)]
theorem zbn_Gok:∀f C,zbn_G f=some C→qAe Tryd.prog f C:=qAl ⟨zbm_ok,zbo_ok,zaj_ok,tV⟩
def zbn_d0:=(dQS (qAb (dSO 0 dS) (qAb (dSO 3 (dO 0)) (qAb (dSO 4 dZ) dNil))) (qAb (dRow .u8 5) dNil))
def zbn_l0:SubQ:=mkL zbn_d0 (fun x=>zbn_p0 x.1.2.2.1 x.2.1) fun x r R kn kx kr=>kx 0 ⟨[sL 0 (.vS x.1.1),sL 3 (.own 0)],[],[.row .u8 5 r]⟩
def zbn_d2:=(dQS (qAb (dSO 0 dS) (qAb (dSO 5 dS) (qAb (dSO 6 (dO 0)) (qAb (dSO 7 (dO 1)) (qAb (dSO 8 dZ) (qAb (dSO 9 dZ) dNil)))))) (qAb (dRow .str 9) (qAb (dRow .str 9) dNil)))
def zbn_l2:SubQ:=mkL zbn_d2 (fun x=>zbn_p2 x.1.1 x.1.2.1 x.1.2.2.2.2.1 x.1.2.2.2.2.2.1 x.2.1 x.2.2.1) fun x r R kn kx kr=>(Sum.elim (fun (r_0:Bool)=>kr ⟨[sL 2 (.vB r_0)],[],[]⟩) (fun (r_1:Unit)=>kx 4 ⟨[sL 0 (.vS x.1.1),sL 5 (.vS x.1.2.1),sL 6 (.own 0),sL 7 (.own 1),sL 8 (.vI x.1.2.2.2.2.1)],[],[.row .str 9 x.2.1,.row .str 9 x.2.2.1]⟩)) r
def zbn_d1:=(dQS (qAb (dSO 0 dS) (qAb (dSO 5 dS) (qAb (dSO 6 (dO 0)) (qAb (dSO 7 (dO 1)) (qAb (dSO 8 dZ) dNil))))) (qAb (dRow .str 9) (qAb (dRow .str 9) dNil)))
def zbn_l1:SubQ:=mkL zbn_d1 (fun x=>zbn_p1 x.1.1 x.1.2.1 x.1.2.2.2.2.1 x.2.1 x.2.2.1) fun x r R kn kx kr=>(Sum.elim (fun (r_0:Bool)=>kr ⟨[sL 2 (.vB r_0)],[],[]⟩) (fun (r_1:Unit)=>kx 2 ⟨[],[],[]⟩)) r
def zbn_L:Nat→SubQ:=tblL [(0,zbn_l0),(2,zbn_l2),(1,zbn_l1)]
theorem zbn_sub0:qBu zbn_L zbn_G 0 13 69 0 zbn_b0:=qA2 (show zbn_L 0=zbn_l0 from by kernel_rfl) fun x R kn kx kr=>qA0 (step:=fun y=>qD7 y.1 y.2) (enc:=fun (y:Int × (List Int))=>zbn_d0.e ((x.1.1,x.1.2.1,y.1,x.1.2.2.2),(y.2,x.2.2))) (fun y=>by kernel_rfl) (fun y ki=>by simp only [qD7,-eq_self,qAd,qAg,obA,obS,slL,slR,qAc]; kernel_rfl) (x.1.2.2.1,x.2.1)
theorem zbn_sub2:qBu zbn_L zbn_G 0 13 69 2 zbn_b2:=qA2 (show zbn_L 2=zbn_l2 from by kernel_rfl) fun x R kn kx kr=>qA0 (step:=fun y=>qEi x.1.1 x.1.2.1 x.1.2.2.2.2.1 y x.2.1 x.2.2.1) (enc:=fun (y:Int)=>zbn_d2.e ((x.1.1,x.1.2.1,x.1.2.2.1,x.1.2.2.2.1,x.1.2.2.2.2.1,y,x.1.2.2.2.2.2.2),x.2)) (fun y=>by kernel_rfl) (fun y ki=>by simp only [qEi,-eq_self,qAd,qAg,obA,obS,slL,slR,qAc]; kernel_rfl) x.1.2.2.2.2.2.1
theorem zbn_sub1:qBu zbn_L zbn_G 0 13 69 1 zbn_b1:=qA2 (show zbn_L 1=zbn_l1 from by kernel_rfl) fun x R kn kx kr=>qA0 (step:=fun y=>qFw x.1.1 x.1.2.1 y x.2.1 x.2.2.1) (enc:=fun (y:Int)=>zbn_d1.e ((x.1.1,x.1.2.1,x.1.2.2.1,x.1.2.2.2.1,y,x.1.2.2.2.2.2),x.2)) (fun y=>by kernel_rfl) (fun y ki=>by simp only [qFw,-eq_self,qAd,qAg,obA,obS,slL,slR,qAc]; kernel_rfl) x.1.2.2.2.2.1
theorem zbn_subs:qAu zbn_L zbn_G 0 13 69 zbn_q:=qAn (show qAv zbn_L zbn_G 0 13 69 [(0,zbn_b0),(1,zbn_b1),(2,zbn_b2)] from ⟨zbn_sub0,zbn_sub1,zbn_sub2,tV⟩)
def zbn_da:=(qAb (dVC (dCO dS)) dNil)
def zbn_db:=(dNil:Dec Unit (List SB))
def zbn_c:CS:=mkC zbn_da zbn_db (fun x y=>zbn_s x.1) (fun x y r=>.c (.o (.vB r))) fun x y r=>[]
theorem zbn_val:qAp Tryd.prog 47 zbn_c:=qAs zbn_chk 13 zbn_Gok 0 (fun x=>Nat.le_of_ble_eq_true rfl) (fun y=>rfl) zbn_subs fun x y=>by
 simp only [zbn_s,-eq_self,qAd,qAg,obA,obS,slL,slR,qAc];kernel_rfl
def zbn_w:CQ:=qEg [] zbn_c
theorem zbn_ok:qAe Tryd.prog 47 zbn_w:=qAz zbn_val
def zbk_b0:IQ:=(.loop [0,5,8] (.seq (.seq (rg 43 [oM 36 t8,oM 37 t0,oP 38 (.lenS t37),oP 39 (.bi .lss t36 t38),oM 40 t39,oF 41 (.mv t8) 40,oF 42 (.bi .lss t41 (vI 400)) 40,oP 43 (.pick t40 t42 vF)]) (.cond t43 .skip (.cn [5] (.exit 0)))) (.seq (.block 1 (.seq (rg 11 [oM 47 t0,oM 48 t8,oP 49 (.sub none t47 none (some t48)),oP 50 (.call 42 [t49]),oM 46 t50,oP 51 (.extract t46 0),oP 52 (.extract t46 1),oP 53 (.extract t46 2),oM 9 t51,oM 10 t52,oM 11 t53]) (.seq (rg 64 [oM 54 t10,oP 55 (.bi .neq t54 (vI 0)),oM 56 t55,oF 57 (.mv t10) 56,oF 58 (.bi .neq t57 (vI 31)) 56,oF 59 (.mv t58) 56,oE 60 (.mv t11) 59,oE 61 (.mv t8) 59,oE 62 (.bi .neq t60 t61) 59,oF 63 (.pick t59 vT t62) 56,oP 64 (.pick t56 t63 vF)]) (.cond t64 (.seq (rg 4 [oP 4 (.mv vF)]) (.cn [4] .ret)) .skip)))) (rg 8 [oM 44 t8,oP 45 (.bi .add t44 (vI 1)),oM 8 t45]))))
def zbk_b1:IQ:=(.seq (.seq (rg 93 [oM 92 t6,oP 93 (.bi .neq t92 (vI 31))]) (.cond t93 (.seq (rg 4 [oP 4 (.mv vT)]) (.cn [4] .ret)) .skip)) (.seq (.seq (rg 97 [oM 94 t7,oM 95 t0,oP 96 (.lenS t95),oP 97 (.bi .lss t94 t96)]) (.cond t97 (.seq (rg 17 [oM 99 t0,oM 100 t7,oP 101 (.bi .add t100 (vI 1)),oP 102 (.sub none t99 none (some t101)),oM 103 t1,oP 104 (.bi .add t102 t103),oP 105 (.call 42 [t104]),oM 98 t105,oP 106 (.extract t98 0),oP 107 (.extract t98 1),oP 108 (.extract t98 2),oM 15 t106,oM 16 t107,oM 17 t108]) (.seq (rg 115 [oM 109 t16,oP 110 (.bi .neq t109 (vI 31)),oM 111 t110,oE 112 (.mv t17) 111,oE 113 (.mv t7) 111,oE 114 (.bi .neq t112 t113) 111,oP 115 (.pick t111 vT t114)]) (.cond t115 (.seq (rg 4 [oP 4 (.mv vF)]) (.cn [4] .ret)) .skip))) .skip)) (.seq (rg 4 [oM 116 t0,oM 117 t7,oP 118 (.sub none t116 none (some t117)),oP 119 (.call 47 [t118]),oM 4 t119]) (.cn [4] .ret))))
def zbk_q:IQ:=(.seq (rg 4 [oP 4 (.mv vF)]) (.seq (.seq (rg 19 [oP 18 (.call 45 []),oP 19 (.un .not t18)]) (.cond t19 (.seq (rg 4 [oP 4 (.mv vF)]) (.cn [4] .ret)) .skip)) (.seq (.seq (rg 27 [oM 20 t0,oP 21 (.lenS t20),oP 22 (.bi .gtr t21 (vI 65536)),oM 23 t22,oE 24 (.mv t1) 23,oE 25 (.lenS t24) 23,oE 26 (.bi .gtr t25 (vI 65536)) 23,oP 27 (.pick t23 vT t26)]) (.cond t27 (.seq (rg 4 [oP 4 (.mv vT)]) (.cn [4] .ret)) .skip)) (.seq (rg 7 [oM 29 t0,oP 30 (.call 42 [t29]),oM 28 t30,oP 31 (.extract t28 0),oP 32 (.extract t28 1),oP 33 (.extract t28 2),oM 5 t31,oM 6 t32,oM 7 t33]) (.seq (.seq (rg 35 [oM 34 t6,oP 35 (.bi .eql t34 (vI 0))]) (.cond t35 (.seq (.seq (rg 8 [oP 8 (.mv (vI 0))]) (.block 0 (.cn [0,5,8] (.sub 0 zbk_b0)))) (.seq (rg 4 [oM 65 t5,oP 66 (.len t65),oP 67 (.bi .gtr t66 (vI 0)),oM 4 t67]) (.cn [4] .ret))) .skip)) (.seq (.seq (rg 75 [oM 68 t6,oP 69 (.bi .neq t68 (vI 31)),oM 70 t69,oE 71 (.mv t7) 70,oE 72 (.mv t0) 70,oE 73 (.lenS t72) 70,oE 74 (.bi .lss t71 t73) 70,oP 75 (.pick t70 vT t74)]) (.cond t75 (.seq (rg 14 [oM 77 t0,oM 78 t1,oP 79 (.bi .add t77 t78),oP 80 (.call 42 [t79]),oM 76 t80,oP 81 (.extract t76 0),oP 82 (.extract t76 1),oP 83 (.extract t76 2),oM 12 t81,oM 13 t82,oM 14 t83]) (.seq (rg 91 [oM 84 t13,oM 85 t6,oP 86 (.bi .neq t84 t85),oM 87 t86,oE 88 (.mv t14) 87,oE 89 (.mv t7) 87,oE 90 (.bi .neq t88 t89) 87,oP 91 (.pick t87 vT t90)]) (.cond t91 (.seq (rg 4 [oP 4 (.mv vF)]) (.cn [4] .ret)) .skip))) .skip)) (.cn [0,1,6,7] (.sub 1 zbk_b1))))))))
theorem zbk_chk:chk Tryd.prog 10 []=some (zbk_q.erase,[.tmp 4],120):=by kernel_rfl
def qEo (text:BA) (i:Int):Option (Int ⊕ (Bool ⊕ Unit)) :=
 bif ((decide (i<(text.size:Int))) && (decide (i<(400:Int)))) then (
  gd (0≤(0:Int)∧(0:Int)≤i∧i≤text.size) <|
  (zaj_s (text.extract 0 (Int.toNat i))).bind fun r6 =>
  bif ((!decide (r6.2.1=(0:Int))) && ((!decide (r6.2.1=(31:Int))) || (!decide (r6.2.2=i)))) then (
   some (.inr (.inl false)))
  else (
   gd (qAh (i+(1:Int))) <|
   some (.inl (i+(1:Int)))))
 else (
  some (.inr (.inr ())))
def zbk_p0 (text:BA) (i:Int):Option (Bool ⊕ Unit) :=
 qBj (fun x:Int=>qEo text x) i
def zbk_p1 (text row:BA) (e at_:Int):Option Bool :=
 bif (!decide (e=(31:Int))) then (
  some true)
 else (
  bif decide (at_<(text.size:Int)) then (
   gd (qAh (at_+(1:Int))) <|
   gd (0≤(0:Int)∧(0:Int)≤(at_+(1:Int))∧(at_+(1:Int))≤text.size) <|
   gd ((text.extract 0 (Int.toNat (at_+(1:Int)))).size+row.size≤9223372036854775807) <|
   (zaj_s ((text.extract 0 (Int.toNat (at_+(1:Int))))++row)).bind fun r9 =>
   bif ((!decide (r9.2.1=(31:Int))) || (!decide (r9.2.2=at_))) then (
    some false)
   else (
    gd (0≤(0:Int)∧(0:Int)≤at_∧at_≤text.size) <|
    (zbn_s (text.extract 0 (Int.toNat at_))).bind fun r10 =>
    some r10))
  else (
   gd (0≤(0:Int)∧(0:Int)≤at_∧at_≤text.size) <|
   (zbn_s (text.extract 0 (Int.toNat at_))).bind fun r11 =>
   some r11))
def zbk_s (text row:BA):Option Bool :=
 (zbl_s).bind fun r4 =>
 bif (!r4) then (
  some false)
 else (
  bif ((decide ((65536:Int)<(text.size:Int))) || (decide ((65536:Int)<(row.size:Int)))) then (
   some true)
  else (
   (zaj_s text).bind fun r5 =>
   bif decide (r5.2.1=(0:Int)) then (
    (zbk_p0 text (0:Int)).bind fun o7=>(Sum.elim (fun (o7_0:Bool) =>
     some o7_0) (fun (o7_1:Unit) =>
     some (decide ((0:Int)<(r5.1.length:Int))))) o7)
   else (
    bif ((!decide (r5.2.1=(31:Int))) || (decide (r5.2.2<(text.size:Int)))) then (
     gd (text.size+row.size≤9223372036854775807) <|
     (zaj_s (text++row)).bind fun r8 =>
     bif ((!decide (r8.2.1=r5.2.1)) || (!decide (r8.2.2=r5.2.2))) then (
      some false)
     else (
      (zbk_p1 text row r5.2.1 r5.2.2).bind fun o12 =>
      some o12))
    else (
     (zbk_p1 text row r5.2.1 r5.2.2).bind fun o13 =>
     some o13))))
def zbk_G:Nat→Option CQ:=tblQ [(45,zbl_w),(42,zaj_w),(47,zbn_w)]
theorem zbk_Gok:∀f C,zbk_G f=some C→qAe Tryd.prog f C:=qAl ⟨zbl_ok,zaj_ok,zbn_ok,tV⟩
def zbk_d0:=(dQS (qAb (dSO 0 dS) (qAb (dSO 5 (dO 0)) (qAb (dSO 8 dZ) dNil))) (qAb (dRow .node 36) dNil))
def zbk_l0:SubQ:=mkL zbk_d0 (fun x=>zbk_p0 x.1.1 x.1.2.2.1) fun x r R kn kx kr=>(Sum.elim (fun (r_0:Bool)=>kr ⟨[sL 4 (.vB r_0)],[],[]⟩) (fun (r_1:Unit)=>kx 0 ⟨[sL 5 (.own 0)],[],[.row .node 36 x.2.1]⟩)) r
def zbk_d1:=(dQS (qAb (dSO 0 dS) (qAb (dSO 1 dS) (qAb (dSO 6 dZ) (qAb (dSO 7 dZ) dNil)))) dNil)
def zbk_l1:SubQ:=mkL zbk_d1 (fun x=>zbk_p1 x.1.1 x.1.2.1 x.1.2.2.1 x.1.2.2.2.1) fun x r R kn kx kr=>kr ⟨[sL 4 (.vB r)],[],[]⟩
def zbk_L:Nat→SubQ:=tblL [(0,zbk_l0),(1,zbk_l1)]
theorem zbk_sub0:qBu zbk_L zbk_G 0 18 120 0 zbk_b0:=qA2 (show zbk_L 0=zbk_l0 from by kernel_rfl) fun x R kn kx kr=>qA0 (step:=fun y=>qEo x.1.1 y) (enc:=fun (y:Int)=>zbk_d0.e ((x.1.1,x.1.2.1,y,x.1.2.2.2),x.2)) (fun y=>by kernel_rfl) (fun y ki=>by simp only [qEo,-eq_self,qAd,qAg,obA,obS,slL,slR,qAc]; kernel_rfl) x.1.2.2.1
theorem zbk_sub1:qBu zbk_L zbk_G 0 18 120 1 zbk_b1:=qA2 (show zbk_L 1=zbk_l1 from by kernel_rfl) fun x R kn kx kr=>by
 simp only [zbk_p1,-eq_self,qAd,qAg,obA,obS,slL,slR,qAc];kernel_rfl
theorem zbk_subs:qAu zbk_L zbk_G 0 18 120 zbk_q:=qAn (show qAv zbk_L zbk_G 0 18 120 [(0,zbk_b0),(1,zbk_b1)] from ⟨zbk_sub0,zbk_sub1,tV⟩)
def zbk_da:=(qAb (dVC (dCO dS)) (qAb (dVC (dCO dS)) dNil))
def zbk_db:=(dNil:Dec Unit (List SB))
def zbk_c:CS:=mkC zbk_da zbk_db (fun x y=>zbk_s x.1 x.2.1) (fun x y r=>.c (.o (.vB r))) fun x y r=>[]
theorem zbk_val:qAp Tryd.prog 10 zbk_c:=qAs zbk_chk 18 zbk_Gok 0 (fun x=>Nat.le_of_ble_eq_true rfl) (fun y=>rfl) zbk_subs fun x y=>by
 simp only [zbk_s,-eq_self,qAd,qAg,obA,obS,slL,slR,qAc];kernel_rfl
end
end Go.Proofs.YtdcoiccdbgcpaaaDoor
