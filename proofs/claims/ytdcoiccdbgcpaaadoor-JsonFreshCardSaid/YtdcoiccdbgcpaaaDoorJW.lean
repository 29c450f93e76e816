/-
  Functions as the engine reads them (printed by gen.py).
-/
import Derived.Test.YtdcoiccdbgcpaaaDoorEngO
import Derived.Test.YtdcoiccdbgcpaaaDoorProg
import Derived.Test.YtdcoiccdbgcpaaaDoorJS
import Derived.Test.YtdcoiccdbgcpaaaDoorGC
import Derived.Test.YtdcoiccdbgcpaaaDoorPShaped
import Derived.Test.YtdcoiccdbgcpaaaDoorJP
import Derived.Test.YtdcoiccdbgcpaaaDoorPLexQ
namespace Go.Proofs.YtdcoiccdbgcpaaaDoor
open Go.Eng
set_option linter.unusedVariables false
set_option linter.unusedSimpArgs false
set_option maxRecDepth 100000
noncomputable section
structure qG9 where
 addr:Bool
 buf:(List Int)
def zbv_q:IQ:=(.join [(2000000,some 0,.u8,0)] [] (.seq (rg 6 (rF 2 t0 0++[oP 6 (.ext (.ptrEq false) [t5,(.v (.pointer none))])])) (.cond t6 (rg 0 ([oM 7 t0,oM 8 t0,oP 9 (.ext .toUns [t8]),oP 10 (.ext .noEsc [t9]),oP 11 (.ext (.fromUns 107 2) [t10])]++rS 12 t7 0 t11)) (.seq (rg 19 (rF 14 t0 0++[oM 18 t0,oP 19 (.ext (.ptrEq true) [t17,t18])])) (.cond t19 .bad .skip)))))
theorem zbv_chk:chk Tryd.prog 146 []=some (zbv_q.erase,[],20):=by kernel_rfl
def zbv_s (b:qG9):Option qG9 :=
 bif (!b.addr) then (
  some (⟨true,b.buf⟩:qG9))
 else (
  bif (!b.addr) then (
   none)
  else (
   some b))
def zbv_G:Nat→Option CQ:=tblQ []
theorem zbv_Gok:∀f C,zbv_G f=some C→qAf Tryd.prog f C:=fun f C h=>by cases h
def zbv_L:Nat→SubQ:=tblL []
theorem zbv_subs:qAp zbv_L zbv_G 2 2 20 zbv_q:=qAk (show qAr zbv_L zbv_G 2 2 20 [] from tV)
def zbv_da:=(qAb (dVC (dCO (dH 0 0))) dNil)
def zDJW1:=(dCells 107 (qAb (dP 0 0) (qAb (dO 1) dNil)))
def zbv_db:=(qAb zDJW1 (qAb (qBs .u8) dNil))
def zbv_c:CS:=mkC zbv_da zbv_db (fun x y=>zbv_s (⟨y.1.1,y.2.1⟩:qG9)) (fun x y r=>.tup []) fun x y r=>[.cells 107 [.opt r.addr 0 0,.own 1],.view .u8 y.2.1]
theorem zbv_val:qAm Tryd.prog 146 zbv_c:=qAo zbv_chk 2 zbv_Gok 2 (fun x=>Nat.le_of_ble_eq_true rfl) (fun y=>rfl) zbv_subs fun x y=>by
 simp only [zbv_s,-eq_self,qAd,qAg,obA,obS,slL,slR,qAc];kernel_rfl
def zbv_w:CQ:=qB8 [(0,some 0,none),(0,some 1,some (.u8,5))] (qC2 [true,false] zbv_c)
theorem zbv_ok:qAf Tryd.prog 146 zbv_w:=qAt zbv_val
def zbu_q:IQ:=(.seq (rg 5 [oP 4 (.mv (vI 0)),oP 5 (.mv (.v (.nilIface)))]) (.seq (rg 7 [oM 6 t0,oP 7 (.call 146 [t6])]) (.seq (rg 0 ([oM 8 t0]++rF 9 t0 1++[oM 13 t1,oP 14 (.ext (.appStr 5) [t12,t13])]++rS 15 t8 1 t14)) (.seq (rg 5 [oM 17 t1,oP 18 (.lenS t17),oM 4 t18,oP 5 (.mv (.v (.nilIface)))]) (.canon [(2000000,some 0,.u8,0)] [4,5] .ret)))))
theorem zbu_chk:chk Tryd.prog 113 []=some (zbu_q.erase,[.tmp 4,.tmp 5],19):=by kernel_rfl
def zbu_s (b:qG9) (s:BA):Option (qG9 × Int × Unit) :=
 (zbv_s b).bind fun r3 =>
 gd (b.buf.length+s.size≤140737488355328) <|
 some ((⟨r3.addr,(b.buf++(qAq s))⟩:qG9),(s.size:Int),())
def zbu_G:Nat→Option CQ:=tblQ [(146,zbv_w)]
theorem zbu_Gok:∀f C,zbu_G f=some C→qAf Tryd.prog f C:=qAl ⟨zbv_ok,tV⟩
def zbu_L:Nat→SubQ:=tblL []
theorem zbu_subs:qAp zbu_L zbu_G 2 6 19 zbu_q:=qAk (show qAr zbu_L zbu_G 2 6 19 [] from tV)
def zbu_da:=(qAb (dVC (dCO (dH 0 0))) (qAb (dVC (dCO dS)) dNil))
def zbu_db:=(qAb zDJW1 (qAb (dRow .u8 5) dNil))
def zbu_c:CS:=mkC zbu_da zbu_db (fun x y=>zbu_s (⟨y.1.1,y.2.1⟩:qG9) x.2.1) (fun x y r=>.tup [.o (.vI r.2.1),.o (.val (.nilIface))]) fun x y r=>[.cells 107 [.opt r.1.addr 0 0,.own 2],.dead,.row .u8 5 r.1.buf]
theorem zbu_val:qAm Tryd.prog 113 zbu_c:=qAo zbu_chk 6 zbu_Gok 2 (fun x=>Nat.le_of_ble_eq_true rfl) (fun y=>rfl) zbu_subs fun x y=>by
 simp only [zbu_s,-eq_self,qAd,qAg,obA,obS,slL,slR,qAc];kernel_rfl
def zbu_w:CQ:=qB8 [(0,some 0,none),(0,some 1,some (.u8,5))] (qC2 [true,true] zbu_c)
theorem zbu_ok:qAf Tryd.prog 113 zbu_w:=qAt zbu_val
def zbt_q:IQ:=(.seq (rg 4 [oP 4 (.mv (.v (.nilIface)))]) (.seq (rg 6 [oM 5 t0,oP 6 (.call 146 [t5])]) (.seq (rg 0 ([oM 7 t0]++rF 8 t0 1++[oM 12 t1,oP 13 (.bslice 5 1 1 [.int .u8 0] [(0,t12)]),oP 14 (.append 5 1 1 [.int .u8 0] t11 t13)]++rS 15 t7 1 t14)) (.seq (rg 4 [oP 4 (.mv (.v (.nilIface)))]) (.canon [(2000000,some 0,.u8,0)] [4] .ret)))))
theorem zbt_chk:chk Tryd.prog 115 []=some (zbt_q.erase,[.tmp 4],17):=by kernel_rfl
def zbt_s (b:qG9) (c:Int):Option (qG9 × Unit) :=
 (zbv_s b).bind fun r3 =>
 gd (b.buf.length+([c]:List Int).length≤9223372036854775807∧(b.buf.length+([c]:List Int).length)*1≤140737488355328) <|
 some ((⟨r3.addr,(b.buf++[c])⟩:qG9),())
def zbt_G:Nat→Option CQ:=tblQ [(146,zbv_w)]
theorem zbt_Gok:∀f C,zbt_G f=some C→qAf Tryd.prog f C:=qAl ⟨zbv_ok,tV⟩
def zbt_L:Nat→SubQ:=tblL []
theorem zbt_subs:qAp zbt_L zbt_G 2 5 17 zbt_q:=qAk (show qAr zbt_L zbt_G 2 5 17 [] from tV)
def zDJW4:=(qAb (dVC (dCO (dI .u8))) dNil)
def zbt_da:=(qAb (dVC (dCO (dH 0 0))) zDJW4)
def zbt_db:=(qAb zDJW1 (qAb (dRow .u8 5) dNil))
def zbt_c:CS:=mkC zbt_da zbt_db (fun x y=>zbt_s (⟨y.1.1,y.2.1⟩:qG9) x.2.1) (fun x y r=>.c (.o (.val (.nilIface)))) fun x y r=>[.cells 107 [.opt r.1.addr 0 0,.own 2],.dead,.row .u8 5 r.1.buf]
theorem zbt_val:qAm Tryd.prog 115 zbt_c:=qAo zbt_chk 5 zbt_Gok 2 (fun x=>Nat.le_of_ble_eq_true rfl) (fun y=>rfl) zbt_subs fun x y=>by
 simp only [zbt_s,-eq_self,qAd,qAg,obA,obS,slL,slR,qAc];kernel_rfl
def zbt_w:CQ:=qB8 [(0,some 0,none),(0,some 1,some (.u8,5))] (qC2 [true,true] zbt_c)
theorem zbt_ok:qAf Tryd.prog 115 zbt_w:=qAt zbt_val
def zag_q:IQ:=(.seq (rg 4 [oP 4 (.mv (vI 0))]) (.seq (rg 4 [oM 5 t0,oM 6 t1,oP 7 (.ext .idxByte [t5,t6]),oM 4 t7]) (.cn [4] .ret)))
theorem zag_chk:chk Tryd.prog 169 []=some (zag_q.erase,[.tmp 4],8):=by kernel_rfl
def zag_s (s:BA) (c:Int):Option Int :=
 some (Lib.indexByte s.data.toList (Int.toNat c).toUInt8)
def zag_G:Nat→Option CQ:=tblQ []
theorem zag_Gok:∀f C,zag_G f=some C→qAf Tryd.prog f C:=fun f C h=>by cases h
def zag_L:Nat→SubQ:=tblL []
theorem zag_subs:qAp zag_L zag_G 0 5 8 zag_q:=qAk (show qAr zag_L zag_G 0 5 8 [] from tV)
def zag_da:=(qAb (dVC (dCO dS)) zDJW4)
def zag_db:=(dNil:Dec Unit (List SB))
def zag_c:CS:=mkC zag_da zag_db (fun x y=>zag_s x.1 x.2.1) (fun x y r=>.c (.o (.vI r))) fun x y r=>[]
theorem zag_val:qAm Tryd.prog 169 zag_c:=qAo zag_chk 5 zag_Gok 0 (fun x=>Nat.le_of_ble_eq_true rfl) (fun y=>rfl) zag_subs fun x y=>by
 simp only [zag_s,-eq_self,qAd,qAg,obA,obS,slL,slR,qAc];kernel_rfl
def zag_w:CQ:=qD4 [] zag_c
theorem zag_ok:qAf Tryd.prog 169 zag_w:=qAy zag_val
def zbx_q:IQ:=(.seq (rg 4 [oP 4 (.mv (vI 0))]) (.seq (rg 4 [oM 5 t0,oM 6 t1,oP 7 (.call 169 [t5,t6]),oM 4 t7]) (.cn [4] .ret)))
theorem zbx_chk:chk Tryd.prog 147 []=some (zbx_q.erase,[.tmp 4],8):=by kernel_rfl
def zbx_s (s:BA) (c:Int):Option Int :=
 (zag_s s c).bind fun r1 =>
 some r1
def zbx_G:Nat→Option CQ:=tblQ [(169,zag_w)]
theorem zbx_Gok:∀f C,zbx_G f=some C→qAf Tryd.prog f C:=qAl ⟨zag_ok,tV⟩
def zbx_L:Nat→SubQ:=tblL []
theorem zbx_subs:qAp zbx_L zbx_G 0 5 8 zbx_q:=qAk (show qAr zbx_L zbx_G 0 5 8 [] from tV)
def zbx_da:=(qAb (dVC (dCO dS)) zDJW4)
def zbx_db:=(dNil:Dec Unit (List SB))
def zbx_c:CS:=mkC zbx_da zbx_db (fun x y=>zbx_s x.1 x.2.1) (fun x y r=>.c (.o (.vI r))) fun x y r=>[]
theorem zbx_val:qAm Tryd.prog 147 zbx_c:=qAo zbx_chk 5 zbx_Gok 0 (fun x=>Nat.le_of_ble_eq_true rfl) (fun y=>rfl) zbx_subs fun x y=>by
 simp only [zbx_s,-eq_self,qAd,qAg,obA,obS,slL,slR,qAc];kernel_rfl
def zbx_w:CQ:=qD4 [] zbx_c
theorem zbx_ok:qAf Tryd.prog 147 zbx_w:=qAy zbx_val
def zap_b0:IQ:=(.loop [0,1,4,11,12] (.seq (rg 13 [oP 13 (.bi .lss t12 t11)]) (.seq (.cond t13 .skip (.cn [0,1,4] (.exit 0))) (.seq (.block 1 (.seq (rg 5 [oM 14 t12,oM 5 t14]) (.seq (rg 6 [oM 15 t1,oM 16 t5,oP 17 (.index t15 t16),oM 6 t17]) (.seq (.seq (rg 27 [oM 18 t6,oP 19 (.bi .geq t18 (vC 32)),oM 20 t19,oF 21 (.mv t6) 20,oF 22 (.bi .neq t21 (vC 34)) 20,oP 23 (.pick t20 t22 vF),oM 24 t23,oF 25 (.mv t6) 24,oF 26 (.bi .neq t25 (vC 92)) 24,oP 27 (.pick t24 t26 vF)]) (.cond t27 (.exit 1) .skip)) (.seq (rg 33 [oM 28 t0,oM 29 t1,oM 30 t4,oM 31 t5,oP 32 (.sub none t29 (some t30) (some t31)),oP 33 (.call 113 [t28,t32])]) (.seq (rg 4 [oM 34 t5,oP 35 (.bi .add t34 (vI 1)),oM 4 t35]) (.seq (rg 7 [oM 36 t6,oP 37 (.call 147 [(.v (.string ⟨#[8,12,10,13,9,34,92]⟩)),t36]),oM 7 t37]) (.seq (rg 39 [oM 38 t7,oP 39 (.bi .geq t38 (vI 0))]) (.cond t39 (rg 46 [oM 40 t0,oM 41 t7,oM 42 t7,oP 43 (.bi .add t42 (vI 1)),oP 44 (.sub none (.v (.string ⟨#[98,102,110,114,116,34,92]⟩)) (some t41) (some t43)),oP 45 (.bi .add (.v (.string ⟨#[92]⟩)) t44),oP 46 (.call 113 [t40,t45])]) (.reg 62 (some [0,1,2,3,4,5,6,7,8,9,10,11,12,13,14,15]) [oM 47 t0,oM 48 t6,oP 49 (.bi .shr t48 (.v (.int .u64 4))),oM 50 t6,oP 51 (.bi .shr t50 (.v (.int .u64 4))),oP 52 (.bi .add t51 (vC 1)),oP 53 (.sub none (.v (.string ⟨#[48,49,50,51,52,53,54,55,56,57,97,98,99,100,101,102]⟩)) (some t49) (some t52)),oP 54 (.bi .add (.v (.string ⟨#[92,117,48,48]⟩)) t53),oM 55 t6,oP 56 (.bi .and t55 (vC 15)),oM 57 t6,oP 58 (.bi .and t57 (vC 15)),oP 59 (.bi .add t58 (vC 1)),oP 60 (.sub none (.v (.string ⟨#[48,49,50,51,52,53,54,55,56,57,97,98,99,100,101,102]⟩)) (some t56) (some t59)),oP 61 (.bi .add t54 t60),oP 62 (.callL 113 [t47,t61])])))))))))) (rg 12 [oP 63 (.bi .add t12 (vI 1)),oM 12 t63])))))
def zap_q:IQ:=(.join [(2000000,some 0,.u8,0)] [] (.seq (rg 9 [oM 8 t0,oP 9 (.call 115 [t8,(vC 34)])]) (.seq (rg 4 [oP 4 (.mv (vI 0))]) (.seq (.seq (rg 12 [oM 10 t1,oP 11 (.lenS t10),oP 12 (.mv (vI 0))]) (.block 0 (.cn [0,1,4,11,12] (.sub 0 zap_b0)))) (rg 69 [oM 64 t0,oM 65 t1,oM 66 t4,oP 67 (.sub none t65 (some t66) none),oP 68 (.bi .add t67 (.v (.string ⟨#[34]⟩))),oP 69 (.call 113 [t64,t68])])))))
theorem zap_chk:chk Tryd.prog 114 [62]=some (zap_q.erase,[],70):=by kernel_rfl
def qEa (s:BA) (from_ x11_ x12_:Int) (b_addr:Bool) (b_buf:List Int):Option ((Int × Int × Bool × (List Int)) ⊕ (Int × Bool × (List Int))) :=
 bif decide (x12_<x11_) then (
  gd (0≤x12_∧x12_<s.size) <|
  bif (((decide ((32:Int)≤(bAt s x12_))) && (!decide ((bAt s x12_)=(34:Int)))) && (!decide ((bAt s x12_)=(92:Int)))) then (
   gd (qAe (x12_+(1:Int))) <|
   some (.inl (from_,(x12_+(1:Int)),b_addr,b_buf)))
  else (
   gd (0≤from_∧from_≤x12_∧x12_≤s.size) <|
   (zbu_s (⟨b_addr,b_buf⟩:qG9) (s.extract (Int.toNat from_) (Int.toNat x12_))).bind fun r22 =>
   gd (qAe (x12_+(1:Int))) <|
   (zbx_s (⟨#[8,12,10,13,9,34,92]⟩:BA) (bAt s x12_)).bind fun r23 =>
   bif decide ((0:Int)≤r23) then (
    gd (qAe (r23+(1:Int))) <|
    gd (0≤r23∧r23≤(r23+(1:Int))∧(r23+(1:Int))≤(⟨#[98,102,110,114,116,34,92]⟩:BA).size) <|
    gd ((⟨#[92]⟩:BA).size+((⟨#[98,102,110,114,116,34,92]⟩:BA).extract (Int.toNat r23) (Int.toNat (r23+(1:Int)))).size≤9223372036854775807) <|
    (zbu_s r22.1 ((⟨#[92]⟩:BA)++((⟨#[98,102,110,114,116,34,92]⟩:BA).extract (Int.toNat r23) (Int.toNat (r23+(1:Int)))))).bind fun r24 =>
    gd (qAe (x12_+(1:Int))) <|
    some (.inl ((x12_+(1:Int)),(x12_+(1:Int)),r24.1.addr,r24.1.buf)))
   else (
    gd (0≤(4:Int)) <|
    gd (0≤(4:Int)) <|
    gd (0≤((bAt s x12_) / 16)∧((bAt s x12_) / 16)≤((((bAt s x12_) / 16)+(1:Int)) % 256)∧((((bAt s x12_) / 16)+(1:Int)) % 256)≤(⟨#[48,49,50,51,52,53,54,55,56,57,97,98,99,100,101,102]⟩:BA).size) <|
    gd ((⟨#[92,117,48,48]⟩:BA).size+((⟨#[48,49,50,51,52,53,54,55,56,57,97,98,99,100,101,102]⟩:BA).extract (Int.toNat ((bAt s x12_) / 16)) (Int.toNat ((((bAt s x12_) / 16)+(1:Int)) % 256))).size≤9223372036854775807) <|
    gd (0≤(qBe .u8 (bAt s x12_) (15:Int))∧(qBe .u8 (bAt s x12_) (15:Int))≤(((qBe .u8 (bAt s x12_) (15:Int))+(1:Int)) % 256)∧(((qBe .u8 (bAt s x12_) (15:Int))+(1:Int)) % 256)≤(⟨#[48,49,50,51,52,53,54,55,56,57,97,98,99,100,101,102]⟩:BA).size) <|
    gd (((⟨#[92,117,48,48]⟩:BA)++((⟨#[48,49,50,51,52,53,54,55,56,57,97,98,99,100,101,102]⟩:BA).extract (Int.toNat ((bAt s x12_) / 16)) (Int.toNat ((((bAt s x12_) / 16)+(1:Int)) % 256)))).size+((⟨#[48,49,50,51,52,53,54,55,56,57,97,98,99,100,101,102]⟩:BA).extract (Int.toNat (qBe .u8 (bAt s x12_) (15:Int))) (Int.toNat (((qBe .u8 (bAt s x12_) (15:Int))+(1:Int)) % 256))).size≤9223372036854775807) <|
    (zbu_s r22.1 (((⟨#[92,117,48,48]⟩:BA)++((⟨#[48,49,50,51,52,53,54,55,56,57,97,98,99,100,101,102]⟩:BA).extract (Int.toNat ((bAt s x12_) / 16)) (Int.toNat ((((bAt s x12_) / 16)+(1:Int)) % 256))))++((⟨#[48,49,50,51,52,53,54,55,56,57,97,98,99,100,101,102]⟩:BA).extract (Int.toNat (qBe .u8 (bAt s x12_) (15:Int))) (Int.toNat (((qBe .u8 (bAt s x12_) (15:Int))+(1:Int)) % 256))))).bind fun r25 =>
    gd (qAe (x12_+(1:Int))) <|
    some (.inl ((x12_+(1:Int)),(x12_+(1:Int)),r25.1.addr,r25.1.buf)))))
 else (
  some (.inr (from_,b_addr,b_buf)))
def zap_p0 (s:BA) (from_ x11_ x12_:Int) (b_addr:Bool) (b_buf:List Int):Option (Int × Bool × (List Int)) :=
 qA2 (fun x:(Int × Int × Bool × (List Int))=>qEa s x.1 x11_ x.2.1 x.2.2.1 x.2.2.2) (from_,x12_,b_addr,b_buf)
def zap_s (b:qG9) (s:BA):Option qG9 :=
 (zbt_s b (34:Int)).bind fun r21 =>
 (zap_p0 s (0:Int) (s.size:Int) (0:Int) r21.1.addr r21.1.buf).bind fun o26 =>
 gd (0≤o26.1∧o26.1≤(s.size:Int)∧(s.size:Int)≤s.size) <|
 gd ((s.extract (Int.toNat o26.1) s.size).size+(⟨#[34]⟩:BA).size≤9223372036854775807) <|
 (zbu_s (⟨o26.2.1,o26.2.2⟩:qG9) ((s.extract (Int.toNat o26.1) s.size)++(⟨#[34]⟩:BA))).bind fun r27 =>
 some r27.1
def zap_G:Nat→Option CQ:=tblQ [(115,zbt_w),(113,zbu_w),(147,zbx_w)]
theorem zap_Gok:∀f C,zap_G f=some C→qAf Tryd.prog f C:=qAl ⟨zbt_ok,zbu_ok,zbx_ok,tV⟩
def zDJW3:=(dCells 107 (qAb (dP 0 0) (qAb (dO 2) dNil)))
def zap_d0:=(dQS (qAb (dSO 0 (dH 0 0)) (qAb (dSO 1 dS) (qAb (dSO 4 dZ) (qAb (dSO 11 dZ) (qAb (dSO 12 dZ) dNil))))) (qAb zDJW3 (qAb dDead (qAb (dRow .u8 5) dNil))))
def zap_l0:SubQ:=mkL zap_d0 (fun x=>zap_p0 x.1.2.1 x.1.2.2.1 x.1.2.2.2.1 x.1.2.2.2.2.1 x.2.1.1 x.2.2.2.1) fun x r R kn kx kr=>kx 0 ⟨[sL 0 (.hd 0 0),sL 1 (.vS x.1.2.1),sL 4 (.vI r.1)],[],[.cells 107 [.opt r.2.1 0 0,.own 2],.dead,.row .u8 5 r.2.2]⟩
def zap_L:Nat→SubQ:=tblL [(0,zap_l0)]
theorem zap_sub0:qBz zap_L zap_G 2 13 70 0 zap_b0:=qAu (show zap_L 0=zap_l0 from by kernel_rfl) fun x R kn kx kr=>qAs (step:=fun y=>qEa x.1.2.1 y.1 x.1.2.2.2.1 y.2.1 y.2.2.1 y.2.2.2) (enc:=fun (y:Int × Int × Bool × (List Int))=>zap_d0.e ((x.1.1,x.1.2.1,y.1,x.1.2.2.2.1,y.2.1,x.1.2.2.2.2.2),((y.2.2.1,x.2.1.2),x.2.2.1,y.2.2.2,x.2.2.2.2))) (fun y=>by kernel_rfl) (fun y ki=>by simp only [qEa,-eq_self,qAd,qAg,obA,obS,slL,slR,qAc]; kernel_rfl) (x.1.2.2.1,x.1.2.2.2.2.1,x.2.1.1,x.2.2.2.1)
theorem zap_subs:qAp zap_L zap_G 2 13 70 zap_q:=qAk (show qAr zap_L zap_G 2 13 70 [(0,zap_b0)] from ⟨zap_sub0,tV⟩)
def zap_da:=(qAb (dVC (dCO (dH 0 0))) (qAb (dVC (dCO dS)) dNil))
def zap_db:=(qAb zDJW1 (qAb (dRow .u8 5) dNil))
def zap_c:CS:=mkC zap_da zap_db (fun x y=>zap_s (⟨y.1.1,y.2.1⟩:qG9) x.2.1) (fun x y r=>.tup []) fun x y r=>[.cells 107 [.opt r.addr 0 0,.own 2],.dead,.row .u8 5 r.buf]
theorem zap_val:qAm Tryd.prog 114 zap_c:=qAo zap_chk 13 zap_Gok 2 (fun x=>Nat.le_of_ble_eq_true rfl) (fun y=>rfl) zap_subs fun x y=>by
 simp only [zap_s,-eq_self,qAd,qAg,obA,obS,slL,slR,qAc];kernel_rfl
def zap_w:CQ:=qB8 [(0,some 0,none),(0,some 1,some (.u8,5))] (qC2 [true,true] zap_c)
theorem zap_ok:qAf Tryd.prog 114 zap_w:=qAt zap_val
def zbk_da:=(qAb (dVC (dCO (dH 0 0))) (qAb (dVC (dCO (dO 1))) (qAb (dVC (dCO dZ)) dNil)))
def zbk_db:=(qAb zDJW3 (qAb (qBs .node) (qAb (dRow .u8 5) dNil)))
def zbk_cs (self:qG9→(List Eng.Node)→Int→Option (qG9 × Int)):CS:=mkC zbk_da zbk_db (fun x y=>self (⟨y.1.1,y.2.2.1⟩:qG9) y.2.1 x.2.2.1) (fun x y r=>.c (.o (.vI r.2))) fun x y r=>[.cells 107 [.opt r.1.addr 0 0,.own 3],.view .node y.2.1,.dead,.row .u8 5 r.1.buf]
def zbk_ws (self:qG9→(List Eng.Node)→Int→Option (qG9 × Int)):CQ:=qB8 [(0,some 0,none),(0,some 1,some (.u8,5)),(1,none,some (.node,36))] (qC2 [true,false,true] (zbk_cs self))
def zbk_b2:IQ:=(.join [] [0,1,2,7,8,26,27] (.seq (.seq (rg 36 [oP 34 (.faddr 0 t7),oP 35 (.load none t34),oP 36 (.bi .eql t35 (vI 7))]) (.cond t36 (.seq (rg 43 [oM 37 t0,oM 38 t1,oM 39 t2,oP 40 (.iaddr 6 t38 t39),oP 41 (.faddr 1 t40),oP 42 (.load none t41),oP 43 (.call 114 [t37,t42])]) (rg 45 [oM 44 t0,oP 45 (.call 115 [t44,(vC 58)])])) .skip)) (rg 2 [oM 46 t0,oM 47 t1,oM 48 t2,oP 49 (.call 80 [t46,t47,t48]),oM 2 t49])))
def zbk_b1:IQ:=(.loop [0,1,2,7,8,26,27] (.seq (rg 28 [oP 28 (.bi .lss t27 t26)]) (.seq (.cond t28 .skip (.cn [0,2,8] (.exit 1))) (.seq (.block 2 (.seq (rg 9 [oM 29 t27,oM 9 t29]) (.seq (.seq (rg 31 [oM 30 t9,oP 31 (.bi .gtr t30 (vI 0))]) (.cond t31 (rg 33 [oM 32 t0,oP 33 (.call 115 [t32,(vC 44)])]) .skip)) (.cn [0,1,2,7,8,26,27] (.sub 2 zbk_b2))))) (rg 27 [oP 50 (.bi .add t27 (vI 1)),oM 27 t50])))))
def zbk_b0:IQ:=(.join [] [0,2] (.seq (rg 24 [oM 21 t0,oM 22 t8,oP 23 (.index t22 (vI 0)),oP 24 (.call 115 [t21,t23])]) (.seq (.seq (rg 27 [oP 25 (.faddr 5 t7),oP 26 (.load none t25),oP 27 (.mv (vI 0))]) (.block 1 (.cn [0,1,2,7,8,26,27] (.sub 1 zbk_b1)))) (rg 54 [oM 51 t0,oM 52 t8,oP 53 (.index t52 (vI 1)),oP 54 (.call 115 [t51,t53])]))))
def zbk_q:IQ:=(.seq (rg 6 [oP 6 (.mv (vI 0))]) (.seq (rg 0 [oM 10 t1,oM 11 t2,oP 12 (.iaddr 6 t10 t11),oP 13 (.load (some 6) t12),oP 7 (.alloc 36 [.int .i64 0,.string ⟨#[]⟩,.string ⟨#[]⟩,.bool false,.int .i64 0,.int .i64 0]),oN (.store 6 t7 t13)]) (.seq (rg 2 [oM 14 t2,oP 15 (.bi .add t14 (vI 1)),oM 2 t15]) (.seq (.seq (rg 17 [oP 16 (.faddr 0 t7),oP 17 (.load none t16)]) (.block 0 (.seq (rg 55 [oP 56 (.bi .eql t17 (vI 1)),oM 55 t56]) (.cond t55 (rg 58 [oM 57 t0,oP 58 (.call 113 [t57,(.v (.string ⟨#[110,117,108,108]⟩))])]) (.seq (rg 59 [oP 60 (.bi .eql t17 (vI 2)),oM 59 t60]) (.cond t59 (rg 62 [oM 61 t0,oP 62 (.call 113 [t61,(.v (.string ⟨#[102,97,108,115,101]⟩))])]) (.seq (rg 63 [oP 64 (.bi .eql t17 (vI 3)),oM 63 t64]) (.cond t63 (rg 66 [oM 65 t0,oP 66 (.call 113 [t65,(.v (.string ⟨#[116,114,117,101]⟩))])]) (.seq (rg 67 [oP 68 (.bi .eql t17 (vI 4)),oM 67 t68]) (.cond t67 (rg 72 [oM 69 t0,oP 70 (.faddr 2 t7),oP 71 (.load none t70),oP 72 (.call 113 [t69,t71])]) (.seq (rg 73 [oP 74 (.bi .eql t17 (vI 5)),oM 73 t74]) (.cond t73 (rg 78 [oM 75 t0,oP 76 (.faddr 2 t7),oP 77 (.load none t76),oP 78 (.call 114 [t75,t77])]) (.seq (rg 8 [oP 8 (.mv (.v (.string ⟨#[91,93]⟩)))]) (.seq (.seq (rg 20 [oP 18 (.faddr 0 t7),oP 19 (.load none t18),oP 20 (.bi .eql t19 (vI 7))]) (.cond t20 (rg 8 [oP 8 (.mv (.v (.string ⟨#[123,125]⟩)))]) .skip)) (.cn [0,1,2,7,8] (.sub 0 zbk_b0)))))))))))))))) (.seq (rg 6 [oM 79 t2,oM 6 t79]) (.canon [(2000000,some 0,.u8,0)] [6] .ret))))))
theorem zbk_chk:chk Tryd.prog 80 []=some (zbk_q.erase,[.tmp 6],80):=by kernel_rfl
def zbk_p2 (self:qG9→(List Eng.Node)→Int→Option (qG9 × Int)) (at_:Int) (b_addr:Bool) (v:List Eng.Node) (qHl:Int) (b_buf:List Int):Option (Int × Bool × (List Int)) :=
 bif decide (qHl=(7:Int)) then (
  gd (0≤at_∧at_<v.length) <|
  gd ((Int.toNat at_)<v.length) <|
  gd ((Int.toNat at_)<v.length) <|
  (zap_s (⟨b_addr,b_buf⟩:qG9) ((v.getD (Int.toNat at_) (ET.dft .node)).key)).bind fun r57 =>
  (zbt_s r57 (58:Int)).bind fun r58 =>
  (self r58.1 v at_).bind fun r59 =>
  some (r59.2,r59.1.addr,r59.1.buf))
 else (
  (self (⟨b_addr,b_buf⟩:qG9) v at_).bind fun r60 =>
  some (r60.2,r60.1.addr,r60.1.buf))
def qD9 (self:qG9→(List Eng.Node)→Int→Option (qG9 × Int)) (at_ x26_ x27_:Int) (b_addr:Bool) (v:List Eng.Node) (qHl:Int) (b_buf:List Int):Option ((Int × Int × Bool × (List Int)) ⊕ (Int × Bool × (List Int))) :=
 bif decide (x27_<x26_) then (
  bif decide ((0:Int)<x27_) then (
   (zbt_s (⟨b_addr,b_buf⟩:qG9) (44:Int)).bind fun r56 =>
   (zbk_p2 self at_ r56.1.addr v qHl r56.1.buf).bind fun o61 =>
   gd (qAe (x27_+(1:Int))) <|
   some (.inl (o61.1,(x27_+(1:Int)),o61.2.1,o61.2.2)))
  else (
   (zbk_p2 self at_ b_addr v qHl b_buf).bind fun o62 =>
   gd (qAe (x27_+(1:Int))) <|
   some (.inl (o62.1,(x27_+(1:Int)),o62.2.1,o62.2.2))))
 else (
  some (.inr (at_,b_addr,b_buf)))
def zbk_p1 (self:qG9→(List Eng.Node)→Int→Option (qG9 × Int)) (at_ x26_ x27_:Int) (b_addr:Bool) (v:List Eng.Node) (qHl:Int) (b_buf:List Int):Option (Int × Bool × (List Int)) :=
 qA2 (fun x:(Int × Int × Bool × (List Int))=>qD9 self x.1 x26_ x.2.1 x.2.2.1 v qHl x.2.2.2) (at_,x27_,b_addr,b_buf)
def zbk_p0 (self:qG9→(List Eng.Node)→Int→Option (qG9 × Int)) (at_:Int) (signs:BA) (b_addr:Bool) (v:List Eng.Node) (b_buf:List Int) (qHl qHn:Int):Option (Int × Bool × (List Int)) :=
 gd (0≤(0:Int)∧(0:Int)<signs.size) <|
 (zbt_s (⟨b_addr,b_buf⟩:qG9) (bAt signs (0:Int))).bind fun r55 =>
 (zbk_p1 self at_ qHn (0:Int) r55.1.addr v qHl r55.1.buf).bind fun o63 =>
 gd (0≤(1:Int)∧(1:Int)<signs.size) <|
 (zbt_s (⟨o63.2.1,o63.2.2⟩:qG9) (bAt signs (1:Int))).bind fun r64 =>
 some (o63.1,r64.1.addr,r64.1.buf)
def zbk_t (self:qG9→(List Eng.Node)→Int→Option (qG9 × Int)) (b:qG9) (v:(List Eng.Node)) (at_:Int):Option (qG9 × Int) :=
 gd (0≤at_∧at_<v.length) <|
 gd ((Int.toNat at_)<v.length) <|
 gd (qAe (at_+(1:Int))) <|
 bif decide (((v.getD (Int.toNat at_) (ET.dft .node)).kind)=(1:Int)) then (
  (zbu_s b (⟨#[110,117,108,108]⟩:BA)).bind fun r50 =>
  some (r50.1,(at_+(1:Int))))
 else (
  bif decide (((v.getD (Int.toNat at_) (ET.dft .node)).kind)=(2:Int)) then (
   (zbu_s b (⟨#[102,97,108,115,101]⟩:BA)).bind fun r51 =>
   some (r51.1,(at_+(1:Int))))
  else (
   bif decide (((v.getD (Int.toNat at_) (ET.dft .node)).kind)=(3:Int)) then (
    (zbu_s b (⟨#[116,114,117,101]⟩:BA)).bind fun r52 =>
    some (r52.1,(at_+(1:Int))))
   else (
    bif decide (((v.getD (Int.toNat at_) (ET.dft .node)).kind)=(4:Int)) then (
     (zbu_s b ((v.getD (Int.toNat at_) (ET.dft .node)).text)).bind fun r53 =>
     some (r53.1,(at_+(1:Int))))
    else (
     bif decide (((v.getD (Int.toNat at_) (ET.dft .node)).kind)=(5:Int)) then (
      (zap_s b ((v.getD (Int.toNat at_) (ET.dft .node)).text)).bind fun r54 =>
      some (r54,(at_+(1:Int))))
     else (
      bif decide (((v.getD (Int.toNat at_) (ET.dft .node)).kind)=(7:Int)) then (
       (zbk_p0 self (at_+(1:Int)) (⟨#[123,125]⟩:BA) b.addr v b.buf ((v.getD (Int.toNat at_) (ET.dft .node)).kind) ((v.getD (Int.toNat at_) (ET.dft .node)).kids)).bind fun o65 =>
       some ((⟨o65.2.1,o65.2.2⟩:qG9),o65.1))
      else (
       (zbk_p0 self (at_+(1:Int)) (⟨#[91,93]⟩:BA) b.addr v b.buf ((v.getD (Int.toNat at_) (ET.dft .node)).kind) ((v.getD (Int.toNat at_) (ET.dft .node)).kids)).bind fun o66 =>
       some ((⟨o66.2.1,o66.2.2⟩:qG9),o66.1)))))))
def zbk_G (self:qG9→(List Eng.Node)→Int→Option (qG9 × Int)):Nat→Option CQ:=tblQ [(113,zbu_w),(114,zap_w),(115,zbt_w),(80,zbk_ws self)]
theorem zbk_Gok (self:qG9→(List Eng.Node)→Int→Option (qG9 × Int)) (hself:qAf Tryd.prog 80 (zbk_ws self)):∀f C,(zbk_G self) f=some C→qAf Tryd.prog f C:=qAl ⟨zbu_ok,zap_ok,zbt_ok,hself,tV⟩
def zDJW2:=(dCells 36 (qAb dZ (qAb dS (qAb dS (qAb dB (qAb dZ (qAb dZ dNil)))))))
def zbk_d2:=(dQS (qAb (dSO 0 (dH 0 0)) (qAb (dSO 1 (dO 1)) (qAb (dSO 2 dZ) (qAb (dSO 7 (dH 3 0)) (qAb (dSO 8 dS) (qAb (dSO 26 dZ) (qAb (dSO 27 dZ) dNil))))))) (qAb (dCells 107 (qAb (dP 0 0) (qAb (dO 4) dNil))) (qAb (qBs .node) (qAb dDead (qAb zDJW2 (qAb (dRow .u8 5) dNil))))))
def zbk_l2 (self:qG9→(List Eng.Node)→Int→Option (qG9 × Int)):SubQ:=mkL zbk_d2 (fun x=>zbk_p2 self x.1.2.2.1 x.2.1.1 x.2.2.1 x.2.2.2.2.1.1 x.2.2.2.2.2.1) fun x r R kn kx kr=>kn ⟨[sL 0 (.hd 0 0),sL 1 (.own 1),sL 2 (.vI r.1),sL 7 (.hd 3 0),sL 8 (.vS x.1.2.2.2.2.1),sL 26 (.vI x.1.2.2.2.2.2.1),sL 27 (.vI x.1.2.2.2.2.2.2.1)],[],[.cells 107 [.opt r.2.1 0 0,.own 4],.view .node x.2.2.1,.dead,.cells 36 [.vI x.2.2.2.2.1.1,.vS x.2.2.2.2.1.2.1,.vS x.2.2.2.2.1.2.2.1,.vB x.2.2.2.2.1.2.2.2.1,.vI x.2.2.2.2.1.2.2.2.2.1,.vI x.2.2.2.2.1.2.2.2.2.2.1],.row .u8 5 r.2.2]⟩
def zbk_d1:=(dQS (qAb (dSO 0 (dH 0 0)) (qAb (dSO 1 (dO 1)) (qAb (dSO 2 dZ) (qAb (dSO 7 (dH 3 0)) (qAb (dSO 8 dS) (qAb (dSO 26 dZ) (qAb (dSO 27 dZ) dNil))))))) (qAb (dCells 107 (qAb (dP 0 0) (qAb (dO 4) dNil))) (qAb (qBs .node) (qAb dDead (qAb zDJW2 (qAb (dRow .u8 5) dNil))))))
def zbk_l1 (self:qG9→(List Eng.Node)→Int→Option (qG9 × Int)):SubQ:=mkL zbk_d1 (fun x=>zbk_p1 self x.1.2.2.1 x.1.2.2.2.2.2.1 x.1.2.2.2.2.2.2.1 x.2.1.1 x.2.2.1 x.2.2.2.2.1.1 x.2.2.2.2.2.1) fun x r R kn kx kr=>kx 1 ⟨[sL 0 (.hd 0 0),sL 2 (.vI r.1),sL 8 (.vS x.1.2.2.2.2.1)],[],[.cells 107 [.opt r.2.1 0 0,.own 3],.view .node x.2.2.1,.dead,.row .u8 5 r.2.2]⟩
def zbk_d0:=(dQS (qAb (dSO 0 (dH 0 0)) (qAb (dSO 1 (dO 1)) (qAb (dSO 2 dZ) (qAb (dSO 7 (dH 3 0)) (qAb (dSO 8 dS) dNil))))) (qAb zDJW3 (qAb (qBs .node) (qAb (dRow .u8 5) (qAb zDJW2 dNil)))))
def zbk_l0 (self:qG9→(List Eng.Node)→Int→Option (qG9 × Int)):SubQ:=mkL zbk_d0 (fun x=>zbk_p0 self x.1.2.2.1 x.1.2.2.2.2.1 x.2.1.1 x.2.2.1 x.2.2.2.1 x.2.2.2.2.1.1 x.2.2.2.2.1.2.2.2.2.2.1) fun x r R kn kx kr=>kn ⟨[sL 0 (.hd 0 0),sL 2 (.vI r.1)],[],[.cells 107 [.opt r.2.1 0 0,.own 3],.view .node x.2.2.1,.dead,.row .u8 5 r.2.2]⟩
def zbk_L (self:qG9→(List Eng.Node)→Int→Option (qG9 × Int)):Nat→SubQ:=tblL [(2,zbk_l2 self),(1,zbk_l1 self),(0,zbk_l0 self)]
theorem zbk_sub2 (self:qG9→(List Eng.Node)→Int→Option (qG9 × Int)):qBz (zbk_L self) (zbk_G self) 3 28 80 2 zbk_b2:=qAu (show (zbk_L self) 2=(zbk_l2 self) from by kernel_rfl) fun x R kn kx kr=>by
 simp only [zbk_p2,-eq_self,qAd,qAg,obA,obS,slL,slR,qAc];kernel_rfl
theorem zbk_sub1 (self:qG9→(List Eng.Node)→Int→Option (qG9 × Int)):qBz (zbk_L self) (zbk_G self) 3 28 80 1 zbk_b1:=qAu (show (zbk_L self) 1=(zbk_l1 self) from by kernel_rfl) fun x R kn kx kr=>qAs (step:=fun y=>qD9 self y.1 x.1.2.2.2.2.2.1 y.2.1 y.2.2.1 x.2.2.1 x.2.2.2.2.1.1 y.2.2.2) (enc:=fun (y:Int × Int × Bool × (List Int))=>zbk_d1.e ((x.1.1,x.1.2.1,y.1,x.1.2.2.2.1,x.1.2.2.2.2.1,x.1.2.2.2.2.2.1,y.2.1,x.1.2.2.2.2.2.2.2),((y.2.2.1,x.2.1.2),x.2.2.1,x.2.2.2.1,x.2.2.2.2.1,y.2.2.2,x.2.2.2.2.2.2))) (fun y=>by kernel_rfl) (fun y ki=>by simp only [qD9,-eq_self,qAd,qAg,obA,obS,slL,slR,qAc]; kernel_rfl) (x.1.2.2.1,x.1.2.2.2.2.2.2.1,x.2.1.1,x.2.2.2.2.2.1)
theorem zbk_sub0 (self:qG9→(List Eng.Node)→Int→Option (qG9 × Int)):qBz (zbk_L self) (zbk_G self) 3 28 80 0 zbk_b0:=qAu (show (zbk_L self) 0=(zbk_l0 self) from by kernel_rfl) fun x R kn kx kr=>by
 simp only [zbk_p0,-eq_self,qAd,qAg,obA,obS,slL,slR,qAc];kernel_rfl
theorem zbk_subs (self:qG9→(List Eng.Node)→Int→Option (qG9 × Int)):qAp (zbk_L self) (zbk_G self) 3 28 80 zbk_q:=qAk (show qAr (zbk_L self) (zbk_G self) 3 28 80 [(0,zbk_b0),(1,zbk_b1),(2,zbk_b2)] from ⟨(zbk_sub0 self),(zbk_sub1 self),(zbk_sub2 self),tV⟩)
theorem zbk_val_t (self:qG9→(List Eng.Node)→Int→Option (qG9 × Int)) (hself:qAf Tryd.prog 80 (zbk_ws self)):qAm Tryd.prog 80 (zbk_cs (zbk_t self)):=qAo zbk_chk 28 (zbk_Gok self hself) 3 (fun x=>Nat.le_of_ble_eq_true rfl) (fun y=>rfl) (zbk_subs self) fun x y=>by
 simp only [zbk_t,-eq_self,qAd,qAg,obA,obS,slL,slR,qAc];kernel_rfl
def zbk_n:Nat→qG9→(List Eng.Node)→Int→Option (qG9 × Int)
 | 0=>fun _ _ _=>none
 | n+1=>zbk_t (zbk_n n)
def zbk_s (b:qG9) (v:(List Eng.Node)) (at_:Int):Option (qG9 × Int):=evt fun n=>zbk_n n b v at_
theorem zbk_valn:∀n,qAm Tryd.prog 80 (zbk_cs (zbk_n n))
 | 0=>qAm.zero fun args hp R k=>by
  show ((Dec.d zbk_da args).bind fun x=>(Dec.d zbk_db hp).bind fun y=>none)=none;cases Dec.d zbk_da args with
  | none=>rfl
  | some x=>cases Dec.d zbk_db hp <;> rfl
 | n+1=>zbk_val_t (zbk_n n) (qAt (zbk_valn n))
theorem zbk_val:qAm Tryd.prog 80 (zbk_cs zbk_s):=qAm.evt zbk_valn (fun args hp R k=>by
  show ((Dec.d zbk_da args).bind fun x=>(Dec.d zbk_db hp).bind fun y=>_)=(((Dec.d zbk_da args).bind fun x=>(Dec.d zbk_db hp).bind fun y=>_):Option (SV × List SB)).bind _;cases Dec.d zbk_da args with
  | none=>rfl
  | some x =>
   cases Dec.d zbk_db hp with
   | none=>rfl
   | some y=>simp only [obS,Option.bind_assoc]) fun args hp v hp' h=>by
  obtain ⟨x,h1,h2⟩:=Option.bind_eq_some_iff.1 h;obtain ⟨y,h3,h4⟩:=Option.bind_eq_some_iff.1 h2;obtain ⟨r,h5,h6⟩:=Option.bind_eq_some_iff.1 h4;obtain ⟨n,h7⟩:=evt_some h5;refine ⟨n,?_⟩;show ((Dec.d zbk_da args).bind fun x=>(Dec.d zbk_db hp).bind fun y=>_)=_;rw [h1];simp only [obS];rw [h3];simp only [obS];exact (congrArg (fun z=>Option.bind z _) h7).trans h6
def zbk_w:CQ:=zbk_ws zbk_s
theorem zbk_ok:qAf Tryd.prog 80 zbk_w:=qAt zbk_val
def zbr_q:IQ:=(.seq (rg 2 [oP 2 (.mv (vI 0))]) (.seq (rg 2 (rF 3 t0 1++[oP 7 (.len t6),oM 2 t7])) (.canon [(2000000,some 0,.u8,0)] [2] .ret)))
theorem zbr_chk:chk Tryd.prog 81 []=some (zbr_q.erase,[.tmp 2],8):=by kernel_rfl
def zbr_s (b:qG9):Option Int :=
 some (b.buf.length:Int)
def zbr_G:Nat→Option CQ:=tblQ []
theorem zbr_Gok:∀f C,zbr_G f=some C→qAf Tryd.prog f C:=fun f C h=>by cases h
def zbr_L:Nat→SubQ:=tblL []
theorem zbr_subs:qAp zbr_L zbr_G 2 3 8 zbr_q:=qAk (show qAr zbr_L zbr_G 2 3 8 [] from tV)
def zbr_da:=(qAb (dVC (dCO (dH 0 0))) dNil)
def zbr_db:=(qAb zDJW1 (qAb (qBs .u8) dNil))
def zbr_c:CS:=mkC zbr_da zbr_db (fun x y=>zbr_s (⟨y.1.1,y.2.1⟩:qG9)) (fun x y r=>.c (.o (.vI r))) fun x y r=>[.cells 107 [.opt y.1.1 0 0,.own 1],.view .u8 y.2.1]
theorem zbr_val:qAm Tryd.prog 81 zbr_c:=qAo zbr_chk 3 zbr_Gok 2 (fun x=>Nat.le_of_ble_eq_true rfl) (fun y=>rfl) zbr_subs fun x y=>by
 simp only [zbr_s,-eq_self,qAd,qAg,obA,obS,slL,slR,qAc];kernel_rfl
def zbr_w:CQ:=qB8 [(0,some 0,none),(0,some 1,some (.u8,5))] (qC2 [true,false] zbr_c)
theorem zbr_ok:qAf Tryd.prog 81 zbr_w:=qAt zbr_val
def zbs_q:IQ:=(.seq (rg 2 [oP 2 (.mv (.v (.string ⟨#[]⟩)))]) (.seq (.reg 2 (some [0,1,2,3,4,5,6,7,8,9,10,11]) (rF 3 t0 1++[oP 7 (.ext .sdata [t6])]++rF 8 t0 1++[oP 12 (.len t11),oP 13 (.ext (.ustr 5) [t7,t12]),oM 2 t13])) (.canon [(2000000,some 0,.u8,0)] [2] .ret)))
theorem zbs_chk:chk Tryd.prog 82 []=some (zbs_q.erase,[.tmp 2],14):=by kernel_rfl
def zbs_s (b:qG9):Option (qG9 × BA) :=
 gd (0<b.buf.length) <|
 gd ((b.buf.length:Int)=b.buf.length∧0<b.buf.length∧∀x∈b.buf,0≤x∧x<256) <|
 some ((⟨b.addr,[]⟩:qG9),(qBk b.buf))
def zbs_G:Nat→Option CQ:=tblQ []
theorem zbs_Gok:∀f C,zbs_G f=some C→qAf Tryd.prog f C:=fun f C h=>by cases h
def zbs_L:Nat→SubQ:=tblL []
theorem zbs_subs:qAp zbs_L zbs_G 2 3 14 zbs_q:=qAk (show qAr zbs_L zbs_G 2 3 14 [] from tV)
def zbs_da:=(qAb (dVC (dCO (dH 0 0))) dNil)
def zbs_db:=(qAb zDJW1 (qAb (dRow .u8 5) dNil))
def zbs_c:CS:=mkC zbs_da zbs_db (fun x y=>zbs_s (⟨y.1.1,y.2.1⟩:qG9)) (fun x y r=>.c (.o (.vS r.2))) fun x y r=>[.cells 107 [.opt r.1.addr 0 0,.own 1],.dead]
theorem zbs_val:qAm Tryd.prog 82 zbs_c:=qAo zbs_chk 3 zbs_Gok 2 (fun x=>Nat.le_of_ble_eq_true rfl) (fun y=>rfl) zbs_subs fun x y=>by
 simp only [zbs_s,-eq_self,qAd,qAg,obA,obS,slL,slR,qAc];kernel_rfl
def zbs_w:CQ:=qB8 [(0,some 0,none),(0,some 1,some (.u8,5))] (qC2 [true,true] zbs_c)
theorem zbs_ok:qAf Tryd.prog 82 zbs_w:=qAt zbs_val
def zal_q:IQ:=(.seq (rg 3 [oP 2 (.mv (.v (.string ⟨#[]⟩))),oP 3 (.mv (vI 0))]) (.seq (.seq (rg 7 [oM 5 t0,oP 6 (.call 39 [t5]),oP 7 (.un .not t6)]) (.cond t7 (.seq (rg 3 [oP 2 (.mv (.v (.string ⟨#[]⟩))),oP 3 (.mv (vI 31))]) (.cn [2,3] .ret)) .skip)) (.seq (rg 4 [oP 4 (.alloc 107 [.pointer none,.slice none 0 0])]) (.seq (rg 9 [oM 8 t0,oP 9 (.call 80 [t4,t8,(vI 0)])]) (.seq (.seq (rg 11 [oP 10 (.call 81 [t4]),oP 11 (.bi .gtr t10 (vI 262144))]) (.cond t11 (.seq (rg 3 [oP 2 (.mv (.v (.string ⟨#[]⟩))),oP 3 (.mv (vI 10))]) (.cn [2,3] .ret)) .skip)) (.seq (rg 3 [oP 12 (.call 82 [t4]),oM 2 t12,oP 3 (.mv (vI 0))]) (.cn [2,3] .ret)))))))
theorem zal_chk:chk Tryd.prog 40 []=some (zal_q.erase,[.tmp 2,.tmp 3],13):=by kernel_rfl
def zal_s (v:(List Eng.Node)):Option (BA × Int) :=
 (zam_s v).bind fun r1 =>
 bif (!r1) then (
  some ((⟨#[]⟩:BA),(31:Int)))
 else (
  (zbk_s (⟨false,[]⟩:qG9) v (0:Int)).bind fun r2 =>
  (zbr_s r2.1).bind fun r3 =>
  bif decide ((262144:Int)<r3) then (
   some ((⟨#[]⟩:BA),(10:Int)))
  else (
   (zbs_s r2.1).bind fun r4 =>
   some (r4.2,(0:Int))))
def zal_G:Nat→Option CQ:=tblQ [(39,zam_w),(80,zbk_w),(81,zbr_w),(82,zbs_w)]
theorem zal_Gok:∀f C,zal_G f=some C→qAf Tryd.prog f C:=qAl ⟨zam_ok,zbk_ok,zbr_ok,zbs_ok,tV⟩
def zal_L:Nat→SubQ:=tblL []
theorem zal_subs:qAp zal_L zal_G 1 5 13 zal_q:=qAk (show qAr zal_L zal_G 1 5 13 [] from tV)
def zal_da:=(qAb (dVC (dCO (dO 0))) dNil)
def zal_db:=(qAb (qBs .node) dNil)
def zal_c:CS:=mkC zal_da zal_db (fun x y=>zal_s y.1) (fun x y r=>.tup [.o (.vS r.1),.o (.vI r.2)]) fun x y r=>[.view .node y.1]
theorem zal_val:qAm Tryd.prog 40 zal_c:=qAo zal_chk 5 zal_Gok 1 (fun x=>Nat.le_of_ble_eq_true rfl) (fun y=>rfl) zal_subs fun x y=>by
 simp only [zal_s,-eq_self,qAd,qAg,obA,obS,slL,slR,qAc];kernel_rfl
def zal_w:CQ:=qB8 [(0,none,some (.node,36))] (qD4 [false] zal_c)
theorem zal_ok:qAf Tryd.prog 40 zal_w:=qEh zal_val
def zbm_q:IQ:=(.seq (rg 0 [oP 0 (.mv vF)]) (.seq (rg 3 [oP 7 (.call 42 [(.v (.string ⟨#[32,123,34,97,34,58,91,49,44,34,92,117,48,48,101,57,34,93,125,32]⟩))]),oM 6 t7,oP 8 (.extract t6 0),oP 9 (.extract t6 1),oP 10 (.extract t6 2),oM 1 t8,oM 2 t9,oM 3 t10]) (.seq (rg 5 [oM 12 t1,oP 13 (.call 40 [t12]),oM 11 t13,oP 14 (.extract t11 0),oP 15 (.extract t11 1),oM 4 t14,oM 5 t15]) (.seq (rg 0 [oM 16 t2,oP 17 (.bi .eql t16 (vI 0)),oM 18 t17,oF 19 (.mv t5) 18,oF 20 (.bi .eql t19 (vI 0)) 18,oP 21 (.pick t18 t20 vF),oM 22 t21,oF 23 (.mv t1) 22,oF 24 (.len t23) 22,oF 25 (.bi .eql t24 (vI 4)) 22,oP 26 (.pick t22 t25 vF),oM 27 t26,oF 28 (.mv t1) 27,oF 29 (.iaddr 6 t28 (vI 1)) 27,oF 30 (.faddr 1 t29) 27,oF 31 (.load none t30) 27,oF 32 (.bi .eql t31 (.v (.string ⟨#[97]⟩))) 27,oP 33 (.pick t27 t32 vF),oM 34 t33,oF 35 (.mv t1) 34,oF 36 (.iaddr 6 t35 (vI 2)) 34,oF 37 (.faddr 4 t36) 34,oF 38 (.load none t37) 34,oF 39 (.bi .eql t38 (vI 1)) 34,oP 40 (.pick t34 t39 vF),oM 41 t40,oF 42 (.mv t1) 41,oF 43 (.iaddr 6 t42 (vI 3)) 41,oF 44 (.faddr 2 t43) 41,oF 45 (.load none t44) 41,oF 46 (.bi .eql t45 (.v (.string ⟨#[195,169]⟩))) 41,oP 47 (.pick t41 t46 vF),oM 48 t47,oF 49 (.mv t4) 48,oF 50 (.bi .eql t49 (.v (.string ⟨#[123,34,97,34,58,91,49,44,34,195,169,34,93,125]⟩))) 48,oP 51 (.pick t48 t50 vF),oM 52 t51,oF 53 (.mv t1) 52,oF 54 (.call 24 [t53,(vI 0),(.v (.string ⟨#[97]⟩))]) 52,oF 55 (.bi .eql t54 (vI 1)) 52,oP 56 (.pick t52 t55 vF),oM 0 t56]) (.cn [0] .ret)))))
theorem zbm_chk:chk Tryd.prog 45 []=some (zbm_q.erase,[.tmp 0],57):=by kernel_rfl
def zbm_s:Option Bool :=
 (zak_s (⟨#[32,123,34,97,34,58,91,49,44,34,92,117,48,48,101,57,34,93,125,32]⟩:BA)).bind fun r1 =>
 (zal_s r1.1).bind fun r2 =>
 gd ((((decide (r1.2.1=(0:Int))) && (decide (r2.2=(0:Int)))) && (decide ((r1.1.length:Int)=(4:Int))))=true→0≤(1:Int)∧(1:Int)<r1.1.length) <|
 gd ((((decide (r1.2.1=(0:Int))) && (decide (r2.2=(0:Int)))) && (decide ((r1.1.length:Int)=(4:Int))))=true→(Int.toNat (1:Int))<r1.1.length) <|
 gd ((((decide (r1.2.1=(0:Int))) && (decide (r2.2=(0:Int)))) && (decide ((r1.1.length:Int)=(4:Int))))=true→(Int.toNat (1:Int))<r1.1.length) <|
 gd (((((decide (r1.2.1=(0:Int))) && (decide (r2.2=(0:Int)))) && (decide ((r1.1.length:Int)=(4:Int)))) && (decide (((r1.1.getD (Int.toNat (1:Int)) (ET.dft .node)).key)=(⟨#[97]⟩:BA))))=true→0≤(2:Int)∧(2:Int)<r1.1.length) <|
 gd (((((decide (r1.2.1=(0:Int))) && (decide (r2.2=(0:Int)))) && (decide ((r1.1.length:Int)=(4:Int)))) && (decide (((r1.1.getD (Int.toNat (1:Int)) (ET.dft .node)).key)=(⟨#[97]⟩:BA))))=true→(Int.toNat (2:Int))<r1.1.length) <|
 gd (((((decide (r1.2.1=(0:Int))) && (decide (r2.2=(0:Int)))) && (decide ((r1.1.length:Int)=(4:Int)))) && (decide (((r1.1.getD (Int.toNat (1:Int)) (ET.dft .node)).key)=(⟨#[97]⟩:BA))))=true→(Int.toNat (2:Int))<r1.1.length) <|
 gd ((((((decide (r1.2.1=(0:Int))) && (decide (r2.2=(0:Int)))) && (decide ((r1.1.length:Int)=(4:Int)))) && (decide (((r1.1.getD (Int.toNat (1:Int)) (ET.dft .node)).key)=(⟨#[97]⟩:BA)))) && (decide (((r1.1.getD (Int.toNat (2:Int)) (ET.dft .node)).int)=(1:Int))))=true→0≤(3:Int)∧(3:Int)<r1.1.length) <|
 gd ((((((decide (r1.2.1=(0:Int))) && (decide (r2.2=(0:Int)))) && (decide ((r1.1.length:Int)=(4:Int)))) && (decide (((r1.1.getD (Int.toNat (1:Int)) (ET.dft .node)).key)=(⟨#[97]⟩:BA)))) && (decide (((r1.1.getD (Int.toNat (2:Int)) (ET.dft .node)).int)=(1:Int))))=true→(Int.toNat (3:Int))<r1.1.length) <|
 gd ((((((decide (r1.2.1=(0:Int))) && (decide (r2.2=(0:Int)))) && (decide ((r1.1.length:Int)=(4:Int)))) && (decide (((r1.1.getD (Int.toNat (1:Int)) (ET.dft .node)).key)=(⟨#[97]⟩:BA)))) && (decide (((r1.1.getD (Int.toNat (2:Int)) (ET.dft .node)).int)=(1:Int))))=true→(Int.toNat (3:Int))<r1.1.length) <|
 bif (((((((decide (r1.2.1=(0:Int))) && (decide (r2.2=(0:Int)))) && (decide ((r1.1.length:Int)=(4:Int)))) && (decide (((r1.1.getD (Int.toNat (1:Int)) (ET.dft .node)).key)=(⟨#[97]⟩:BA)))) && (decide (((r1.1.getD (Int.toNat (2:Int)) (ET.dft .node)).int)=(1:Int)))) && (decide (((r1.1.getD (Int.toNat (3:Int)) (ET.dft .node)).text)=(⟨#[195,169]⟩:BA)))) && (decide (r2.1=(⟨#[123,34,97,34,58,91,49,44,34,195,169,34,93,125]⟩:BA)))) then (
  (zaj_s r1.1 (0:Int) (⟨#[97]⟩:BA)).bind fun r3 =>
  some (decide (r3=(1:Int))))
 else (
  some false)
def zbm_G:Nat→Option CQ:=tblQ [(42,zak_w),(40,zal_w),(24,zaj_w)]
theorem zbm_Gok:∀f C,zbm_G f=some C→qAf Tryd.prog f C:=qAl ⟨zak_ok,zal_ok,zaj_ok,tV⟩
def zbm_L:Nat→SubQ:=tblL []
theorem zbm_subs:qAp zbm_L zbm_G 0 6 57 zbm_q:=qAk (show qAr zbm_L zbm_G 0 6 57 [] from tV)
def zbm_da:=(dNil:Dec Unit (List SV))
def zbm_db:=(dNil:Dec Unit (List SB))
def zbm_c:CS:=mkC zbm_da zbm_db (fun x y=>zbm_s) (fun x y r=>.c (.o (.vB r))) fun x y r=>[]
theorem zbm_val:qAm Tryd.prog 45 zbm_c:=qAo zbm_chk 6 zbm_Gok 0 (fun x=>Nat.le_of_ble_eq_true rfl) (fun y=>rfl) zbm_subs fun x y=>by
 simp only [zbm_s,-eq_self,qAd,qAg,obA,obS,slL,slR,qAc];kernel_rfl
def zbm_w:CQ:=qD4 [] zbm_c
theorem zbm_ok:qAf Tryd.prog 45 zbm_w:=qAy zbm_val
def zbo_b0:IQ:=(.loop [0,1,5] (.seq (.seq (rg 14 [oM 11 t5,oM 12 t0,oP 13 (.len t12),oP 14 (.bi .lss t11 t13)]) (.cond t14 .skip (.cn [] (.exit 0)))) (.seq (.block 1 (.seq (.reg 25 (some [0,1,2,3,4,5,6,7,8]) [oM 17 t0,oM 18 t5,oP 19 (.iaddr 6 t17 t18),oP 20 (.load (some 6) t19),oM 21 t1,oM 22 t5,oP 23 (.iaddr 6 t21 t22),oP 24 (.load (some 6) t23),oP 25 (.ext (.aggEq true [.int .i64,.str,.str,.bool,.int .i64,.int .i64]) [t20,t24])]) (.cond t25 (.seq (rg 4 [oP 4 (.mv vF)]) (.cn [4] .ret)) .skip))) (rg 5 [oM 15 t5,oP 16 (.bi .add t15 (vI 1)),oM 5 t16]))))
def zbo_q:IQ:=(.seq (rg 4 [oP 4 (.mv vF)]) (.seq (.seq (rg 10 [oM 6 t0,oP 7 (.len t6),oM 8 t1,oP 9 (.len t8),oP 10 (.bi .neq t7 t9)]) (.cond t10 (.seq (rg 4 [oP 4 (.mv vF)]) (.cn [4] .ret)) .skip)) (.seq (.seq (rg 5 [oP 5 (.mv (vI 0))]) (.block 0 (.cn [0,1,5] (.sub 0 zbo_b0)))) (.seq (rg 4 [oP 4 (.mv vT)]) (.cn [4] .ret)))))
theorem zbo_chk:chk Tryd.prog 46 []=some (zbo_q.erase,[.tmp 4],26):=by kernel_rfl
def qFx (i:Int) (a b:List Eng.Node):Option (Int ⊕ (Bool ⊕ Unit)) :=
 bif decide (i<(a.length:Int)) then (
  gd (0≤i∧i<a.length) <|
  gd ((Int.toNat i)<a.length) <|
  gd (0≤i∧i<b.length) <|
  gd ((Int.toNat i)<b.length) <|
  bif (!(decide (((a.getD (Int.toNat i) (ET.dft .node)).kind)=((b.getD (Int.toNat i) (ET.dft .node)).kind)) && (decide (((a.getD (Int.toNat i) (ET.dft .node)).key)=((b.getD (Int.toNat i) (ET.dft .node)).key)) && (decide (((a.getD (Int.toNat i) (ET.dft .node)).text)=((b.getD (Int.toNat i) (ET.dft .node)).text)) && ((((a.getD (Int.toNat i) (ET.dft .node)).whole) == ((b.getD (Int.toNat i) (ET.dft .node)).whole)) && (decide (((a.getD (Int.toNat i) (ET.dft .node)).int)=((b.getD (Int.toNat i) (ET.dft .node)).int)) && (decide (((a.getD (Int.toNat i) (ET.dft .node)).kids)=((b.getD (Int.toNat i) (ET.dft .node)).kids)) && true))))))) then (
   some (.inr (.inl false)))
  else (
   gd (qAe (i+(1:Int))) <|
   some (.inl (i+(1:Int)))))
 else (
  some (.inr (.inr ())))
def zbo_p0 (i:Int) (a b:List Eng.Node):Option (Bool ⊕ Unit) :=
 qA2 (fun x:Int=>qFx x a b) i
def zbo_s (a b:(List Eng.Node)):Option Bool :=
 bif (!decide ((a.length:Int)=(b.length:Int))) then (
  some false)
 else (
  (zbo_p0 (0:Int) a b).bind fun o1=>(Sum.elim (fun (o1_0:Bool) =>
   some o1_0) (fun (o1_1:Unit) =>
   some true)) o1)
def zbo_G:Nat→Option CQ:=tblQ []
theorem zbo_Gok:∀f C,zbo_G f=some C→qAf Tryd.prog f C:=fun f C h=>by cases h
def zbo_d0:=(dQS (qAb (dSO 0 (dO 0)) (qAb (dSO 1 (dO 1)) (qAb (dSO 5 dZ) dNil))) (qAb (qBs .node) (qAb (qBs .node) dNil)))
def zbo_l0:SubQ:=mkL zbo_d0 (fun x=>zbo_p0 x.1.2.2.1 x.2.1 x.2.2.1) fun x r R kn kx kr=>(Sum.elim (fun (r_0:Bool)=>kr ⟨[sL 4 (.vB r_0)],[],[.view .node x.2.1,.view .node x.2.2.1]⟩) (fun (r_1:Unit)=>kx 0 ⟨[],[],[.view .node x.2.1,.view .node x.2.2.1]⟩)) r
def zbo_L:Nat→SubQ:=tblL [(0,zbo_l0)]
theorem zbo_sub0:qBz zbo_L zbo_G 2 6 26 0 zbo_b0:=qAu (show zbo_L 0=zbo_l0 from by kernel_rfl) fun x R kn kx kr=>qAs (step:=fun y=>qFx y x.2.1 x.2.2.1) (enc:=fun (y:Int)=>zbo_d0.e ((x.1.1,x.1.2.1,y,x.1.2.2.2),x.2)) (fun y=>by kernel_rfl) (fun y ki=>by simp only [qFx,-eq_self,qAd,qAg,obA,obS,slL,slR,qAc]; kernel_rfl) x.1.2.2.1
theorem zbo_subs:qAp zbo_L zbo_G 2 6 26 zbo_q:=qAk (show qAr zbo_L zbo_G 2 6 26 [(0,zbo_b0)] from ⟨zbo_sub0,tV⟩)
def zbo_da:=(qAb (dVC (dCO (dO 0))) (qAb (dVC (dCO (dO 1))) dNil))
def zbo_db:=(qAb (qBs .node) (qAb (qBs .node) dNil))
def zbo_c:CS:=mkC zbo_da zbo_db (fun x y=>zbo_s y.1 y.2.1) (fun x y r=>.c (.o (.vB r))) fun x y r=>[.view .node y.1,.view .node y.2.1]
theorem zbo_val:qAm Tryd.prog 46 zbo_c:=qAo zbo_chk 6 zbo_Gok 2 (fun x=>Nat.le_of_ble_eq_true rfl) (fun y=>rfl) zbo_subs fun x y=>by
 simp only [zbo_s,-eq_self,qAd,qAg,obA,obS,slL,slR,qAc];kernel_rfl
def zbo_w:CQ:=qB8 [(0,none,some (.node,36)),(1,none,some (.node,36))] (qD4 [false,false] zbo_c)
theorem zbo_ok:qAf Tryd.prog 46 zbo_w:=qEh zbo_val
end
end Go.Proofs.YtdcoiccdbgcpaaaDoor
