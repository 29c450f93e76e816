/-
  Functions as the engine reads them (printed by gen.py).
-/
import Derived.Test.YtdcoiccdbgcpaaaDoorEngO
import Derived.Test.YtdcoiccdbgcpaaaDoorProg
import Derived.Test.YtdcoiccdbgcpaaaDoorUtf8
import Derived.Test.YtdcoiccdbgcpaaaDoorGC
import Derived.Test.YtdcoiccdbgcpaaaDoorPShaped
import Derived.Test.YtdcoiccdbgcpaaaDoorJS
import Derived.Test.YtdcoiccdbgcpaaaDoorJP
import Derived.Test.YtdcoiccdbgcpaaaDoorPLexQ
namespace Go.Proofs.YtdcoiccdbgcpaaaDoor
open Go.Eng
set_option linter.unusedVariables false
set_option linter.unusedSimpArgs false
set_option maxRecDepth 100000
noncomputable section
structure strings_Builder where
 addr:Bool
 buf:(List Int)
def zbs_q:IQ:=(.join [(2000000,some 0,.u8,0)] [] (.seq (rg 6 [oM 2 t0,oP 3 (.nk t2),oP 4 (.faddr 0 t3),oP 5 (.load none t4),oP 6 (.ext (.ptrEq false) [t5,(.v (.pointer none))])]) (.cond t6 (rg 0 [oM 7 t0,oM 8 t0,oP 9 (.ext .toUns [t8]),oP 10 (.ext .noEsc [t9]),oP 11 (.ext (.fromUns 107 2) [t10]),oP 12 (.nk t7),oP 13 (.faddr 0 t12),oN (.store 1 t13 t11)]) (.seq (rg 19 [oM 14 t0,oP 15 (.nk t14),oP 16 (.faddr 0 t15),oP 17 (.load none t16),oM 18 t0,oP 19 (.ext (.ptrEq true) [t17,t18])]) (.cond t19 .bad .skip)))))
theorem zbs_chk:chk Tryd.prog 146 []=some (zbs_q.erase,[],20):=by kernel_rfl
def zbs_s (b:strings_Builder):Option strings_Builder :=
 bif (!b.addr) then (
  some (⟨true,b.buf⟩:strings_Builder))
 else (
  bif (!b.addr) then (
   none)
  else (
   some b))
def zbs_G:Nat→Option CQ:=tblQ []
theorem zbs_Gok:∀f C,zbs_G f=some C→qAe Tryd.prog f C:=fun f C h=>by cases h
def zbs_L:Nat→SubQ:=tblL []
theorem zbs_subs:qAo zbs_L zbs_G 2 2 20 zbs_q:=qAl (show qAp zbs_L zbs_G 2 2 20 [] from trivial)
def zbs_da:=(dCons (dVC (dCO (dH 0 0))) dNil)
def zbs_db:=(dCons (qAq 107 (dCons (dP 0 0) (dCons (dO 1) dNil))) (dCons (dView .u8) dNil))
def zbs_c:CS:=mkC zbs_da zbs_db (fun x y=>zbs_s (⟨y.1.1,y.2.1⟩:strings_Builder)) (fun x y r=>.tup []) fun x y r=>[.cells 107 [.opt r.addr 0 0,.own 1],.view .u8 y.2.1]
theorem zbs_val:qAm Tryd.prog 146 zbs_c:=qAn zbs_chk 2 zbs_Gok 2 (fun x=>Nat.le_of_ble_eq_true rfl) (fun y=>rfl) zbs_subs fun x y=>by
 simp only [zbs_s,-eq_self,qAc,qAf,obA,obS,slL,slR,qAb]
 kernel_rfl
def zbs_w:CQ:=prepQ [(0,some 0,none),(0,some 1,some (.u8,5))] (liftQ [true,false] zbs_c)
theorem zbs_ok:qAe Tryd.prog 146 zbs_w:=qAs zbs_val
def zbr_q:IQ:=(.seq (rg 5 [oP 4 (.mv (vI 0)),oP 5 (.mv (.v (.nilIface)))]) (.seq (rg 7 [oM 6 t0,oP 7 (.call 146 [t6])]) (.seq (rg 0 [oM 8 t0,oM 9 t0,oP 10 (.nk t9),oP 11 (.faddr 1 t10),oP 12 (.load none t11),oM 13 t1,oP 14 (.ext (.appStr 5) [t12,t13]),oP 15 (.nk t8),oP 16 (.faddr 1 t15),oN (.store 1 t16 t14)]) (.seq (rg 5 [oM 17 t1,oP 18 (.lenS t17),oM 4 t18,oP 5 (.mv (.v (.nilIface)))]) (.canon [(2000000,some 0,.u8,0)] [4,5] .ret)))))
theorem zbr_chk:chk Tryd.prog 113 []=some (zbr_q.erase,[.tmp 4,.tmp 5],19):=by kernel_rfl
def zbr_s (b:strings_Builder) (s:ByteArray):Option (strings_Builder × Int × Unit) :=
 (zbs_s b).bind fun r3 =>
 gd (b.buf.length+s.size≤140737488355328) <|
 some ((⟨r3.addr,(b.buf++(qAg s))⟩:strings_Builder),(s.size:Int),())
def zbr_G:Nat→Option CQ:=tblQ [(146,zbs_w)]
theorem zbr_Gok:∀f C,zbr_G f=some C→qAe Tryd.prog f C:=qAj ⟨zbs_ok,trivial⟩
def zbr_L:Nat→SubQ:=tblL []
theorem zbr_subs:qAo zbr_L zbr_G 2 6 19 zbr_q:=qAl (show qAp zbr_L zbr_G 2 6 19 [] from trivial)
def zbr_da:=(dCons (dVC (dCO (dH 0 0))) (dCons (dVC (dCO dS)) dNil))
def zbr_db:=(dCons (qAq 107 (dCons (dP 0 0) (dCons (dO 1) dNil))) (dCons (dRow .u8 5) dNil))
def zbr_c:CS:=mkC zbr_da zbr_db (fun x y=>zbr_s (⟨y.1.1,y.2.1⟩:strings_Builder) x.2.1) (fun x y r=>.tup [.o (.vI r.2.1),.o (.val (.nilIface))]) fun x y r=>[.cells 107 [.opt r.1.addr 0 0,.own 2],.dead,.row .u8 5 r.1.buf]
theorem zbr_val:qAm Tryd.prog 113 zbr_c:=qAn zbr_chk 6 zbr_Gok 2 (fun x=>Nat.le_of_ble_eq_true rfl) (fun y=>rfl) zbr_subs fun x y=>by
 simp only [zbr_s,-eq_self,qAc,qAf,obA,obS,slL,slR,qAb]
 kernel_rfl
def zbr_w:CQ:=prepQ [(0,some 0,none),(0,some 1,some (.u8,5))] (liftQ [true,true] zbr_c)
theorem zbr_ok:qAe Tryd.prog 113 zbr_w:=qAs zbr_val
def zbq_q:IQ:=(.seq (rg 4 [oP 4 (.mv (.v (.nilIface)))]) (.seq (rg 6 [oM 5 t0,oP 6 (.call 146 [t5])]) (.seq (rg 0 [oM 7 t0,oM 8 t0,oP 9 (.nk t8),oP 10 (.faddr 1 t9),oP 11 (.load none t10),oM 12 t1,oP 13 (.bslice 5 1 1 [.int .u8 0] [(0,t12)]),oP 14 (.append 5 1 1 [.int .u8 0] t11 t13),oP 15 (.nk t7),oP 16 (.faddr 1 t15),oN (.store 1 t16 t14)]) (.seq (rg 4 [oP 4 (.mv (.v (.nilIface)))]) (.canon [(2000000,some 0,.u8,0)] [4] .ret)))))
theorem zbq_chk:chk Tryd.prog 115 []=some (zbq_q.erase,[.tmp 4],17):=by kernel_rfl
def zbq_s (b:strings_Builder) (c:Int):Option (strings_Builder × Unit) :=
 (zbs_s b).bind fun r3 =>
 gd (b.buf.length+([c]:List Int).length≤9223372036854775807∧(b.buf.length+([c]:List Int).length)*1≤140737488355328) <|
 some ((⟨r3.addr,(b.buf++[c])⟩:strings_Builder),())
def zbq_G:Nat→Option CQ:=tblQ [(146,zbs_w)]
theorem zbq_Gok:∀f C,zbq_G f=some C→qAe Tryd.prog f C:=qAj ⟨zbs_ok,trivial⟩
def zbq_L:Nat→SubQ:=tblL []
theorem zbq_subs:qAo zbq_L zbq_G 2 5 17 zbq_q:=qAl (show qAp zbq_L zbq_G 2 5 17 [] from trivial)
def zbq_da:=(dCons (dVC (dCO (dH 0 0))) (dCons (dVC (dCO (dI .u8))) dNil))
def zbq_db:=(dCons (qAq 107 (dCons (dP 0 0) (dCons (dO 1) dNil))) (dCons (dRow .u8 5) dNil))
def zbq_c:CS:=mkC zbq_da zbq_db (fun x y=>zbq_s (⟨y.1.1,y.2.1⟩:strings_Builder) x.2.1) (fun x y r=>.c (.o (.val (.nilIface)))) fun x y r=>[.cells 107 [.opt r.1.addr 0 0,.own 2],.dead,.row .u8 5 r.1.buf]
theorem zbq_val:qAm Tryd.prog 115 zbq_c:=qAn zbq_chk 5 zbq_Gok 2 (fun x=>Nat.le_of_ble_eq_true rfl) (fun y=>rfl) zbq_subs fun x y=>by
 simp only [zbq_s,-eq_self,qAc,qAf,obA,obS,slL,slR,qAb]
 kernel_rfl
def zbq_w:CQ:=prepQ [(0,some 0,none),(0,some 1,some (.u8,5))] (liftQ [true,true] zbq_c)
theorem zbq_ok:qAe Tryd.prog 115 zbq_w:=qAs zbq_val
def zag_q:IQ:=(.seq (rg 4 [oP 4 (.mv (vI 0))]) (.seq (rg 4 [oM 5 t0,oM 6 t1,oP 7 (.ext .idxByte [t5,t6]),oM 4 t7]) (.cn [4] .ret)))
theorem zag_chk:chk Tryd.prog 169 []=some (zag_q.erase,[.tmp 4],8):=by kernel_rfl
def zag_s (s:ByteArray) (c:Int):Option Int :=
 some (Lib.indexByte s.data.toList (Int.toNat c).toUInt8)
def zag_G:Nat→Option CQ:=tblQ []
theorem zag_Gok:∀f C,zag_G f=some C→qAe Tryd.prog f C:=fun f C h=>by cases h
def zag_L:Nat→SubQ:=tblL []
theorem zag_subs:qAo zag_L zag_G 0 5 8 zag_q:=qAl (show qAp zag_L zag_G 0 5 8 [] from trivial)
def zag_da:=(dCons (dVC (dCO dS)) (dCons (dVC (dCO (dI .u8))) dNil))
def zag_db:=(dNil:Dec Unit (List SB))
def zag_c:CS:=mkC zag_da zag_db (fun x y=>zag_s x.1 x.2.1) (fun x y r=>.c (.o (.vI r))) fun x y r=>[]
theorem zag_val:qAm Tryd.prog 169 zag_c:=qAn zag_chk 5 zag_Gok 0 (fun x=>Nat.le_of_ble_eq_true rfl) (fun y=>rfl) zag_subs fun x y=>by
 simp only [zag_s,-eq_self,qAc,qAf,obA,obS,slL,slR,qAb]
 kernel_rfl
def zag_w:CQ:=liftV [] zag_c
theorem zag_ok:qAe Tryd.prog 169 zag_w:=qAy zag_val
def zbu_q:IQ:=(.seq (rg 4 [oP 4 (.mv (vI 0))]) (.seq (rg 4 [oM 5 t0,oM 6 t1,oP 7 (.call 169 [t5,t6]),oM 4 t7]) (.cn [4] .ret)))
theorem zbu_chk:chk Tryd.prog 147 []=some (zbu_q.erase,[.tmp 4],8):=by kernel_rfl
def zbu_s (s:ByteArray) (c:Int):Option Int :=
 (zag_s s c).bind fun r1 =>
 some r1
def zbu_G:Nat→Option CQ:=tblQ [(169,zag_w)]
theorem zbu_Gok:∀f C,zbu_G f=some C→qAe Tryd.prog f C:=qAj ⟨zag_ok,trivial⟩
def zbu_L:Nat→SubQ:=tblL []
theorem zbu_subs:qAo zbu_L zbu_G 0 5 8 zbu_q:=qAl (show qAp zbu_L zbu_G 0 5 8 [] from trivial)
def zbu_da:=(dCons (dVC (dCO dS)) (dCons (dVC (dCO (dI .u8))) dNil))
def zbu_db:=(dNil:Dec Unit (List SB))
def zbu_c:CS:=mkC zbu_da zbu_db (fun x y=>zbu_s x.1 x.2.1) (fun x y r=>.c (.o (.vI r))) fun x y r=>[]
theorem zbu_val:qAm Tryd.prog 147 zbu_c:=qAn zbu_chk 5 zbu_Gok 0 (fun x=>Nat.le_of_ble_eq_true rfl) (fun y=>rfl) zbu_subs fun x y=>by
 simp only [zbu_s,-eq_self,qAc,qAf,obA,obS,slL,slR,qAb]
 kernel_rfl
def zbu_w:CQ:=liftV [] zbu_c
theorem zbu_ok:qAe Tryd.prog 147 zbu_w:=qAy zbu_val
def zao_b0:IQ:=(.loop [0,1,4,11,12] (.seq (rg 13 [oP 13 (.bi .lss t12 t11)]) (.seq (.cond t13 .skip (.cn [0,1,4] (.exit 0))) (.seq (.block 1 (.seq (rg 5 [oM 14 t12,oM 5 t14]) (.seq (rg 6 [oM 15 t1,oM 16 t5,oP 17 (.index t15 t16),oM 6 t17]) (.seq (.seq (rg 27 [oM 18 t6,oP 19 (.bi .geq t18 (vC 32)),oM 20 t19,oG 21 (.mv t6) 20 true,oG 22 (.bi .neq t21 (vC 34)) 20 true,oP 23 (.pick t20 t22 vF),oM 24 t23,oG 25 (.mv t6) 24 true,oG 26 (.bi .neq t25 (vC 92)) 24 true,oP 27 (.pick t24 t26 vF)]) (.cond t27 (.exit 1) .skip)) (.seq (rg 33 [oM 28 t0,oM 29 t1,oM 30 t4,oM 31 t5,oP 32 (.sub none t29 (some t30) (some t31)),oP 33 (.call 113 [t28,t32])]) (.seq (rg 4 [oM 34 t5,oP 35 (.bi .add t34 (vI 1)),oM 4 t35]) (.seq (rg 7 [oM 36 t6,oP 37 (.call 147 [(.v (.string ⟨#[8,12,10,13,9,34,92]⟩)),t36]),oM 7 t37]) (.seq (rg 39 [oM 38 t7,oP 39 (.bi .geq t38 (vI 0))]) (.cond t39 (rg 46 [oM 40 t0,oM 41 t7,oM 42 t7,oP 43 (.bi .add t42 (vI 1)),oP 44 (.sub none (.v (.string ⟨#[98,102,110,114,116,34,92]⟩)) (some t41) (some t43)),oP 45 (.bi .add (.v (.string ⟨#[92]⟩)) t44),oP 46 (.call 113 [t40,t45])]) (.reg 62 (some [0,1,2,3,4,5,6,7,8,9,10,11,12,13,14,15]) [oM 47 t0,oM 48 t6,oP 49 (.bi .shr t48 (.v (.int .u64 4))),oM 50 t6,oP 51 (.bi .shr t50 (.v (.int .u64 4))),oP 52 (.bi .add t51 (vC 1)),oP 53 (.sub none (.v (.string ⟨#[48,49,50,51,52,53,54,55,56,57,97,98,99,100,101,102]⟩)) (some t49) (some t52)),oP 54 (.bi .add (.v (.string ⟨#[92,117,48,48]⟩)) t53),oM 55 t6,oP 56 (.bi .and t55 (vC 15)),oM 57 t6,oP 58 (.bi .and t57 (vC 15)),oP 59 (.bi .add t58 (vC 1)),oP 60 (.sub none (.v (.string ⟨#[48,49,50,51,52,53,54,55,56,57,97,98,99,100,101,102]⟩)) (some t56) (some t59)),oP 61 (.bi .add t54 t60),oP 62 (.callL 113 [t47,t61])])))))))))) (rg 12 [oP 63 (.bi .add t12 (vI 1)),oM 12 t63])))))
def zao_q:IQ:=(.join [(2000000,some 0,.u8,0)] [] (.seq (rg 9 [oM 8 t0,oP 9 (.call 115 [t8,(vC 34)])]) (.seq (rg 4 [oP 4 (.mv (vI 0))]) (.seq (.seq (rg 12 [oM 10 t1,oP 11 (.lenS t10),oP 12 (.mv (vI 0))]) (.block 0 (.cn [0,1,4,11,12] (.sub 0 zao_b0)))) (rg 69 [oM 64 t0,oM 65 t1,oM 66 t4,oP 67 (.sub none t65 (some t66) none),oP 68 (.bi .add t67 (.v (.string ⟨#[34]⟩))),oP 69 (.call 113 [t64,t68])])))))
theorem zao_chk:chk Tryd.prog 114 [62]=some (zao_q.erase,[],70):=by kernel_rfl
def qEe (s:ByteArray) (from_ x11_ x12_:Int) (b_addr:Bool) (b_buf:List Int):Option ((Int × Int × Bool × (List Int)) ⊕ (Int × Bool × (List Int))) :=
 bif decide (x12_<x11_) then (
  gd (0≤x12_∧x12_<s.size) <|
  bif (((decide ((32:Int)≤(bAt s x12_))) && (!decide ((bAt s x12_)=(34:Int)))) && (!decide ((bAt s x12_)=(92:Int)))) then (
   gd (InI64 (x12_+(1:Int))) <|
   some (.inl (from_,(x12_+(1:Int)),b_addr,b_buf)))
  else (
   gd (0≤from_∧from_≤x12_∧x12_≤s.size) <|
   (zbr_s (⟨b_addr,b_buf⟩:strings_Builder) (s.extract (Int.toNat from_) (Int.toNat x12_))).bind fun r22 =>
   gd (InI64 (x12_+(1:Int))) <|
   (zbu_s (⟨#[8,12,10,13,9,34,92]⟩:ByteArray) (bAt s x12_)).bind fun r23 =>
   bif decide ((0:Int)≤r23) then (
    gd (InI64 (r23+(1:Int))) <|
    gd (0≤r23∧r23≤(r23+(1:Int))∧(r23+(1:Int))≤(⟨#[98,102,110,114,116,34,92]⟩:ByteArray).size) <|
    gd ((⟨#[92]⟩:ByteArray).size+((⟨#[98,102,110,114,116,34,92]⟩:ByteArray).extract (Int.toNat r23) (Int.toNat (r23+(1:Int)))).size≤9223372036854775807) <|
    (zbr_s r22.1 ((⟨#[92]⟩:ByteArray)++((⟨#[98,102,110,114,116,34,92]⟩:ByteArray).extract (Int.toNat r23) (Int.toNat (r23+(1:Int)))))).bind fun r24 =>
    gd (InI64 (x12_+(1:Int))) <|
    some (.inl ((x12_+(1:Int)),(x12_+(1:Int)),r24.1.addr,r24.1.buf)))
   else (
    gd (0≤(4:Int)) <|
    gd (0≤(4:Int)) <|
    gd (0≤((bAt s x12_) / 16)∧((bAt s x12_) / 16)≤((((bAt s x12_) / 16)+(1:Int)) % 256)∧((((bAt s x12_) / 16)+(1:Int)) % 256)≤(⟨#[48,49,50,51,52,53,54,55,56,57,97,98,99,100,101,102]⟩:ByteArray).size) <|
    gd ((⟨#[92,117,48,48]⟩:ByteArray).size+((⟨#[48,49,50,51,52,53,54,55,56,57,97,98,99,100,101,102]⟩:ByteArray).extract (Int.toNat ((bAt s x12_) / 16)) (Int.toNat ((((bAt s x12_) / 16)+(1:Int)) % 256))).size≤9223372036854775807) <|
    gd (0≤(qBe .u8 (bAt s x12_) (15:Int))∧(qBe .u8 (bAt s x12_) (15:Int))≤(((qBe .u8 (bAt s x12_) (15:Int))+(1:Int)) % 256)∧(((qBe .u8 (bAt s x12_) (15:Int))+(1:Int)) % 256)≤(⟨#[48,49,50,51,52,53,54,55,56,57,97,98,99,100,101,102]⟩:ByteArray).size) <|
    gd (((⟨#[92,117,48,48]⟩:ByteArray)++((⟨#[48,49,50,51,52,53,54,55,56,57,97,98,99,100,101,102]⟩:ByteArray).extract (Int.toNat ((bAt s x12_) / 16)) (Int.toNat ((((bAt s x12_) / 16)+(1:Int)) % 256)))).size+((⟨#[48,49,50,51,52,53,54,55,56,57,97,98,99,100,101,102]⟩:ByteArray).extract (Int.toNat (qBe .u8 (bAt s x12_) (15:Int))) (Int.toNat (((qBe .u8 (bAt s x12_) (15:Int))+(1:Int)) % 256))).size≤9223372036854775807) <|
    (zbr_s r22.1 (((⟨#[92,117,48,48]⟩:ByteArray)++((⟨#[48,49,50,51,52,53,54,55,56,57,97,98,99,100,101,102]⟩:ByteArray).extract (Int.toNat ((bAt s x12_) / 16)) (Int.toNat ((((bAt s x12_) / 16)+(1:Int)) % 256))))++((⟨#[48,49,50,51,52,53,54,55,56,57,97,98,99,100,101,102]⟩:ByteArray).extract (Int.toNat (qBe .u8 (bAt s x12_) (15:Int))) (Int.toNat (((qBe .u8 (bAt s x12_) (15:Int))+(1:Int)) % 256))))).bind fun r25 =>
    gd (InI64 (x12_+(1:Int))) <|
    some (.inl ((x12_+(1:Int)),(x12_+(1:Int)),r25.1.addr,r25.1.buf)))))
 else (
  some (.inr (from_,b_addr,b_buf)))
def zao_p0 (s:ByteArray) (from_ x11_ x12_:Int) (b_addr:Bool) (b_buf:List Int):Option (Int × Bool × (List Int)) :=
 qBg (fun x:(Int × Int × Bool × (List Int))=>qEe s x.1 x11_ x.2.1 x.2.2.1 x.2.2.2) (from_,x12_,b_addr,b_buf)
def zao_s (b:strings_Builder) (s:ByteArray):Option strings_Builder :=
 (zbq_s b (34:Int)).bind fun r21 =>
 (zao_p0 s (0:Int) (s.size:Int) (0:Int) r21.1.addr r21.1.buf).bind fun o26 =>
 gd (0≤o26.1∧o26.1≤(s.size:Int)∧(s.size:Int)≤s.size) <|
 gd ((s.extract (Int.toNat o26.1) s.size).size+(⟨#[34]⟩:ByteArray).size≤9223372036854775807) <|
 (zbr_s (⟨o26.2.1,o26.2.2⟩:strings_Builder) ((s.extract (Int.toNat o26.1) s.size)++(⟨#[34]⟩:ByteArray))).bind fun r27 =>
 some r27.1
def zao_G:Nat→Option CQ:=tblQ [(115,zbq_w),(113,zbr_w),(147,zbu_w)]
theorem zao_Gok:∀f C,zao_G f=some C→qAe Tryd.prog f C:=qAj ⟨zbq_ok,zbr_ok,zbu_ok,trivial⟩
def zao_d0:=(dQS (dCons (dSO 0 (dH 0 0)) (dCons (dSO 1 dS) (dCons (dSO 4 dZ) (dCons (dSO 11 dZ) (dCons (dSO 12 dZ) dNil))))) (dCons (qAq 107 (dCons (dP 0 0) (dCons (dO 2) dNil))) (dCons dDead (dCons (dRow .u8 5) dNil))))
def zao_l0:SubQ:=mkL zao_d0 (fun x=>zao_p0 x.1.2.1 x.1.2.2.1 x.1.2.2.2.1 x.1.2.2.2.2.1 x.2.1.1 x.2.2.2.1) fun x r R kn kx kr=>kx 0 ⟨[sL 0 (.hd 0 0),sL 1 (.vS x.1.2.1),sL 4 (.vI r.1)],[],[.cells 107 [.opt r.2.1 0 0,.own 2],.dead,.row .u8 5 r.2.2]⟩
def zao_L:Nat→SubQ:=tblL [(0,zao_l0)]
theorem zao_sub0:SubOK zao_L zao_G 2 13 70 0 zao_b0:=qAz (show zao_L 0=zao_l0 from by kernel_rfl) fun x R kn kx kr=>qA0 (step:=fun y=>qEe x.1.2.1 y.1 x.1.2.2.2.1 y.2.1 y.2.2.1 y.2.2.2) (enc:=fun (y:Int × Int × Bool × (List Int))=>zao_d0.e ((x.1.1,x.1.2.1,y.1,x.1.2.2.2.1,y.2.1,x.1.2.2.2.2.2),((y.2.2.1,x.2.1.2),x.2.2.1,y.2.2.2,x.2.2.2.2))) (fun y=>by kernel_rfl) (fun y ki=>by simp only [qEe,-eq_self,qAc,qAf,obA,obS,slL,slR,qAb]; kernel_rfl) (x.1.2.2.1,x.1.2.2.2.2.1,x.2.1.1,x.2.2.2.1)
theorem zao_subs:qAo zao_L zao_G 2 13 70 zao_q:=qAl (show qAp zao_L zao_G 2 13 70 [(0,zao_b0)] from ⟨zao_sub0,trivial⟩)
def zao_da:=(dCons (dVC (dCO (dH 0 0))) (dCons (dVC (dCO dS)) dNil))
def zao_db:=(dCons (qAq 107 (dCons (dP 0 0) (dCons (dO 1) dNil))) (dCons (dRow .u8 5) dNil))
def zao_c:CS:=mkC zao_da zao_db (fun x y=>zao_s (⟨y.1.1,y.2.1⟩:strings_Builder) x.2.1) (fun x y r=>.tup []) fun x y r=>[.cells 107 [.opt r.addr 0 0,.own 2],.dead,.row .u8 5 r.buf]
theorem zao_val:qAm Tryd.prog 114 zao_c:=qAn zao_chk 13 zao_Gok 2 (fun x=>Nat.le_of_ble_eq_true rfl) (fun y=>rfl) zao_subs fun x y=>by
 simp only [zao_s,-eq_self,qAc,qAf,obA,obS,slL,slR,qAb]
 kernel_rfl
def zao_w:CQ:=prepQ [(0,some 0,none),(0,some 1,some (.u8,5))] (liftQ [true,true] zao_c)
theorem zao_ok:qAe Tryd.prog 114 zao_w:=qAs zao_val
def zbj_da:=(dCons (dVC (dCO (dH 0 0))) (dCons (dVC (dCO (dO 1))) (dCons (dVC (dCO dZ)) dNil)))
def zbj_db:=(dCons (qAq 107 (dCons (dP 0 0) (dCons (dO 2) dNil))) (dCons (dView .node) (dCons (dRow .u8 5) dNil)))
def zbj_cs (self:strings_Builder→(List Eng.Node)→Int→Option (strings_Builder × Int)):CS:=mkC zbj_da zbj_db (fun x y=>self (⟨y.1.1,y.2.2.1⟩:strings_Builder) y.2.1 x.2.2.1) (fun x y r=>.c (.o (.vI r.2))) fun x y r=>[.cells 107 [.opt r.1.addr 0 0,.own 3],.view .node y.2.1,.dead,.row .u8 5 r.1.buf]
def zbj_ws (self:strings_Builder→(List Eng.Node)→Int→Option (strings_Builder × Int)):CQ:=prepQ [(0,some 0,none),(0,some 1,some (.u8,5)),(1,none,some (.node,36))] (liftQ [true,false,true] (zbj_cs self))
def zbj_b2:IQ:=(.join [] [0,1,2,7,8,26,27] (.seq (.seq (rg 36 [oP 34 (.faddr 0 t7),oP 35 (.load none t34),oP 36 (.bi .eql t35 (vI 7))]) (.cond t36 (.seq (rg 43 [oM 37 t0,oM 38 t1,oM 39 t2,oP 40 (.iaddr 6 t38 t39),oP 41 (.faddr 1 t40),oP 42 (.load none t41),oP 43 (.call 114 [t37,t42])]) (rg 45 [oM 44 t0,oP 45 (.call 115 [t44,(vC 58)])])) .skip)) (rg 2 [oM 46 t0,oM 47 t1,oM 48 t2,oP 49 (.call 80 [t46,t47,t48]),oM 2 t49])))
def zbj_b1:IQ:=(.loop [0,1,2,7,8,26,27] (.seq (rg 28 [oP 28 (.bi .lss t27 t26)]) (.seq (.cond t28 .skip (.cn [0,2,8] (.exit 1))) (.seq (.block 2 (.seq (rg 9 [oM 29 t27,oM 9 t29]) (.seq (.seq (rg 31 [oM 30 t9,oP 31 (.bi .gtr t30 (vI 0))]) (.cond t31 (rg 33 [oM 32 t0,oP 33 (.call 115 [t32,(vC 44)])]) .skip)) (.cn [0,1,2,7,8,26,27] (.sub 2 zbj_b2))))) (rg 27 [oP 50 (.bi .add t27 (vI 1)),oM 27 t50])))))
def zbj_b0:IQ:=(.join [] [0,2] (.seq (rg 24 [oM 21 t0,oM 22 t8,oP 23 (.index t22 (vI 0)),oP 24 (.call 115 [t21,t23])]) (.seq (.seq (rg 27 [oP 25 (.faddr 5 t7),oP 26 (.load none t25),oP 27 (.mv (vI 0))]) (.block 1 (.cn [0,1,2,7,8,26,27] (.sub 1 zbj_b1)))) (rg 54 [oM 51 t0,oM 52 t8,oP 53 (.index t52 (vI 1)),oP 54 (.call 115 [t51,t53])]))))
def zbj_q:IQ:=(.seq (rg 6 [oP 6 (.mv (vI 0))]) (.seq (rg 0 [oM 10 t1,oM 11 t2,oP 12 (.iaddr 6 t10 t11),oP 13 (.load (some 6) t12),oP 7 (.alloc 36 [.int .i64 0,.string ⟨#[]⟩,.string ⟨#[]⟩,.bool false,.int .i64 0,.int .i64 0]),oN (.store 6 t7 t13)]) (.seq (rg 2 [oM 14 t2,oP 15 (.bi .add t14 (vI 1)),oM 2 t15]) (.seq (.seq (rg 17 [oP 16 (.faddr 0 t7),oP 17 (.load none t16)]) (.block 0 (.seq (rg 55 [oP 56 (.bi .eql t17 (vI 1)),oM 55 t56]) (.cond t55 (rg 58 [oM 57 t0,oP 58 (.call 113 [t57,(.v (.string ⟨#[110,117,108,108]⟩))])]) (.seq (rg 59 [oP 60 (.bi .eql t17 (vI 2)),oM 59 t60]) (.cond t59 (rg 62 [oM 61 t0,oP 62 (.call 113 [t61,(.v (.string ⟨#[102,97,108,115,101]⟩))])]) (.seq (rg 63 [oP 64 (.bi .eql t17 (vI 3)),oM 63 t64]) (.cond t63 (rg 66 [oM 65 t0,oP 66 (.call 113 [t65,(.v (.string ⟨#[116,114,117,101]⟩))])]) (.seq (rg 67 [oP 68 (.bi .eql t17 (vI 4)),oM 67 t68]) (.cond t67 (rg 72 [oM 69 t0,oP 70 (.faddr 2 t7),oP 71 (.load none t70),oP 72 (.call 113 [t69,t71])]) (.seq (rg 73 [oP 74 (.bi .eql t17 (vI 5)),oM 73 t74]) (.cond t73 (rg 78 [oM 75 t0,oP 76 (.faddr 2 t7),oP 77 (.load none t76),oP 78 (.call 114 [t75,t77])]) (.seq (rg 8 [oP 8 (.mv (.v (.string ⟨#[91,93]⟩)))]) (.seq (.seq (rg 20 [oP 18 (.faddr 0 t7),oP 19 (.load none t18),oP 20 (.bi .eql t19 (vI 7))]) (.cond t20 (rg 8 [oP 8 (.mv (.v (.string ⟨#[123,125]⟩)))]) .skip)) (.cn [0,1,2,7,8] (.sub 0 zbj_b0)))))))))))))))) (.seq (rg 6 [oM 79 t2,oM 6 t79]) (.canon [(2000000,some 0,.u8,0)] [6] .ret))))))
theorem zbj_chk:chk Tryd.prog 80 []=some (zbj_q.erase,[.tmp 6],80):=by kernel_rfl
def zbj_p2 (self:strings_Builder→(List Eng.Node)→Int→Option (strings_Builder × Int)) (at_:Int) (b_addr:Bool) (v:List Eng.Node) (n_Kind:Int) (b_buf:List Int):Option (Int × Bool × (List Int)) :=
 bif decide (n_Kind=(7:Int)) then (
  gd (0≤at_∧at_<v.length) <|
  gd ((Int.toNat at_)<v.length) <|
  gd ((Int.toNat at_)<v.length) <|
  (zao_s (⟨b_addr,b_buf⟩:strings_Builder) ((v.getD (Int.toNat at_) (ET.dft .node)).key)).bind fun r57 =>
  (zbq_s r57 (58:Int)).bind fun r58 =>
  (self r58.1 v at_).bind fun r59 =>
  some (r59.2,r59.1.addr,r59.1.buf))
 else (
  (self (⟨b_addr,b_buf⟩:strings_Builder) v at_).bind fun r60 =>
  some (r60.2,r60.1.addr,r60.1.buf))
def qEc (self:strings_Builder→(List Eng.Node)→Int→Option (strings_Builder × Int)) (at_ x26_ x27_:Int) (b_addr:Bool) (v:List Eng.Node) (n_Kind:Int) (b_buf:List Int):Option ((Int × Int × Bool × (List Int)) ⊕ (Int × Bool × (List Int))) :=
 bif decide (x27_<x26_) then (
  bif decide ((0:Int)<x27_) then (
   (zbq_s (⟨b_addr,b_buf⟩:strings_Builder) (44:Int)).bind fun r56 =>
   (zbj_p2 self at_ r56.1.addr v n_Kind r56.1.buf).bind fun o61 =>
   gd (InI64 (x27_+(1:Int))) <|
   some (.inl (o61.1,(x27_+(1:Int)),o61.2.1,o61.2.2)))
  else (
   (zbj_p2 self at_ b_addr v n_Kind b_buf).bind fun o62 =>
   gd (InI64 (x27_+(1:Int))) <|
   some (.inl (o62.1,(x27_+(1:Int)),o62.2.1,o62.2.2))))
 else (
  some (.inr (at_,b_addr,b_buf)))
def zbj_p1 (self:strings_Builder→(List Eng.Node)→Int→Option (strings_Builder × Int)) (at_ x26_ x27_:Int) (b_addr:Bool) (v:List Eng.Node) (n_Kind:Int) (b_buf:List Int):Option (Int × Bool × (List Int)) :=
 qBg (fun x:(Int × Int × Bool × (List Int))=>qEc self x.1 x26_ x.2.1 x.2.2.1 v n_Kind x.2.2.2) (at_,x27_,b_addr,b_buf)
def zbj_p0 (self:strings_Builder→(List Eng.Node)→Int→Option (strings_Builder × Int)) (at_:Int) (signs:ByteArray) (b_addr:Bool) (v:List Eng.Node) (b_buf:List Int) (n_Kind n_Kids:Int):Option (Int × Bool × (List Int)) :=
 gd (0≤(0:Int)∧(0:Int)<signs.size) <|
 (zbq_s (⟨b_addr,b_buf⟩:strings_Builder) (bAt signs (0:Int))).bind fun r55 =>
 (zbj_p1 self at_ n_Kids (0:Int) r55.1.addr v n_Kind r55.1.buf).bind fun o63 =>
 gd (0≤(1:Int)∧(1:Int)<signs.size) <|
 (zbq_s (⟨o63.2.1,o63.2.2⟩:strings_Builder) (bAt signs (1:Int))).bind fun r64 =>
 some (o63.1,r64.1.addr,r64.1.buf)
def zbj_t (self:strings_Builder→(List Eng.Node)→Int→Option (strings_Builder × Int)) (b:strings_Builder) (v:(List Eng.Node)) (at_:Int):Option (strings_Builder × Int) :=
 gd (0≤at_∧at_<v.length) <|
 gd ((Int.toNat at_)<v.length) <|
 gd (InI64 (at_+(1:Int))) <|
 bif decide (((v.getD (Int.toNat at_) (ET.dft .node)).kind)=(1:Int)) then (
  (zbr_s b (⟨#[110,117,108,108]⟩:ByteArray)).bind fun r50 =>
  some (r50.1,(at_+(1:Int))))
 else (
  bif decide (((v.getD (Int.toNat at_) (ET.dft .node)).kind)=(2:Int)) then (
   (zbr_s b (⟨#[102,97,108,115,101]⟩:ByteArray)).bind fun r51 =>
   some (r51.1,(at_+(1:Int))))
  else (
   bif decide (((v.getD (Int.toNat at_) (ET.dft .node)).kind)=(3:Int)) then (
    (zbr_s b (⟨#[116,114,117,101]⟩:ByteArray)).bind fun r52 =>
    some (r52.1,(at_+(1:Int))))
   else (
    bif decide (((v.getD (Int.toNat at_) (ET.dft .node)).kind)=(4:Int)) then (
     (zbr_s b ((v.getD (Int.toNat at_) (ET.dft .node)).text)).bind fun r53 =>
     some (r53.1,(at_+(1:Int))))
    else (
     bif decide (((v.getD (Int.toNat at_) (ET.dft .node)).kind)=(5:Int)) then (
      (zao_s b ((v.getD (Int.toNat at_) (ET.dft .node)).text)).bind fun r54 =>
      some (r54,(at_+(1:Int))))
     else (
      bif decide (((v.getD (Int.toNat at_) (ET.dft .node)).kind)=(7:Int)) then (
       (zbj_p0 self (at_+(1:Int)) (⟨#[123,125]⟩:ByteArray) b.addr v b.buf ((v.getD (Int.toNat at_) (ET.dft .node)).kind) ((v.getD (Int.toNat at_) (ET.dft .node)).kids)).bind fun o65 =>
       some ((⟨o65.2.1,o65.2.2⟩:strings_Builder),o65.1))
      else (
       (zbj_p0 self (at_+(1:Int)) (⟨#[91,93]⟩:ByteArray) b.addr v b.buf ((v.getD (Int.toNat at_) (ET.dft .node)).kind) ((v.getD (Int.toNat at_) (ET.dft .node)).kids)).bind fun o66 =>
       some ((⟨o66.2.1,o66.2.2⟩:strings_Builder),o66.1)))))))
def zbj_G (self:strings_Builder→(List Eng.Node)→Int→Option (strings_Builder × Int)):Nat→Option CQ:=tblQ [(113,zbr_w),(114,zao_w),(115,zbq_w),(80,zbj_ws self)]
theorem zbj_Gok (self:strings_Builder→(List Eng.Node)→Int→Option (strings_Builder × Int)) (hself:qAe Tryd.prog 80 (zbj_ws self)):∀f C,(zbj_G self) f=some C→qAe Tryd.prog f C:=qAj ⟨zbr_ok,zao_ok,zbq_ok,hself,trivial⟩
def zbj_d2:=(dQS (dCons (dSO 0 (dH 0 0)) (dCons (dSO 1 (dO 1)) (dCons (dSO 2 dZ) (dCons (dSO 7 (dH 3 0)) (dCons (dSO 8 dS) (dCons (dSO 26 dZ) (dCons (dSO 27 dZ) dNil))))))) (dCons (qAq 107 (dCons (dP 0 0) (dCons (dO 4) dNil))) (dCons (dView .node) (dCons dDead (dCons (qAq 36 (dCons dZ (dCons dS (dCons dS (dCons dB (dCons dZ (dCons dZ dNil))))))) (dCons (dRow .u8 5) dNil))))))
def zbj_l2 (self:strings_Builder→(List Eng.Node)→Int→Option (strings_Builder × Int)):SubQ:=mkL zbj_d2 (fun x=>zbj_p2 self x.1.2.2.1 x.2.1.1 x.2.2.1 x.2.2.2.2.1.1 x.2.2.2.2.2.1) fun x r R kn kx kr=>kn ⟨[sL 0 (.hd 0 0),sL 1 (.own 1),sL 2 (.vI r.1),sL 7 (.hd 3 0),sL 8 (.vS x.1.2.2.2.2.1),sL 26 (.vI x.1.2.2.2.2.2.1),sL 27 (.vI x.1.2.2.2.2.2.2.1)],[],[.cells 107 [.opt r.2.1 0 0,.own 4],.view .node x.2.2.1,.dead,.cells 36 [.vI x.2.2.2.2.1.1,.vS x.2.2.2.2.1.2.1,.vS x.2.2.2.2.1.2.2.1,.vB x.2.2.2.2.1.2.2.2.1,.vI x.2.2.2.2.1.2.2.2.2.1,.vI x.2.2.2.2.1.2.2.2.2.2.1],.row .u8 5 r.2.2]⟩
def zbj_d1:=(dQS (dCons (dSO 0 (dH 0 0)) (dCons (dSO 1 (dO 1)) (dCons (dSO 2 dZ) (dCons (dSO 7 (dH 3 0)) (dCons (dSO 8 dS) (dCons (dSO 26 dZ) (dCons (dSO 27 dZ) dNil))))))) (dCons (qAq 107 (dCons (dP 0 0) (dCons (dO 4) dNil))) (dCons (dView .node) (dCons dDead (dCons (qAq 36 (dCons dZ (dCons dS (dCons dS (dCons dB (dCons dZ (dCons dZ dNil))))))) (dCons (dRow .u8 5) dNil))))))
def zbj_l1 (self:strings_Builder→(List Eng.Node)→Int→Option (strings_Builder × Int)):SubQ:=mkL zbj_d1 (fun x=>zbj_p1 self x.1.2.2.1 x.1.2.2.2.2.2.1 x.1.2.2.2.2.2.2.1 x.2.1.1 x.2.2.1 x.2.2.2.2.1.1 x.2.2.2.2.2.1) fun x r R kn kx kr=>kx 1 ⟨[sL 0 (.hd 0 0),sL 2 (.vI r.1),sL 8 (.vS x.1.2.2.2.2.1)],[],[.cells 107 [.opt r.2.1 0 0,.own 3],.view .node x.2.2.1,.dead,.row .u8 5 r.2.2]⟩
def zbj_d0:=(dQS (dCons (dSO 0 (dH 0 0)) (dCons (dSO 1 (dO 1)) (dCons (dSO 2 dZ) (dCons (dSO 7 (dH 3 0)) (dCons (dSO 8 dS) dNil))))) (dCons (qAq 107 (dCons (dP 0 0) (dCons (dO 2) dNil))) (dCons (dView .node) (dCons (dRow .u8 5) (dCons (qAq 36 (dCons dZ (dCons dS (dCons dS (dCons dB (dCons dZ (dCons dZ dNil))))))) dNil)))))
def zbj_l0 (self:strings_Builder→(List Eng.Node)→Int→Option (strings_Builder × Int)):SubQ:=mkL zbj_d0 (fun x=>zbj_p0 self x.1.2.2.1 x.1.2.2.2.2.1 x.2.1.1 x.2.2.1 x.2.2.2.1 x.2.2.2.2.1.1 x.2.2.2.2.1.2.2.2.2.2.1) fun x r R kn kx kr=>kn ⟨[sL 0 (.hd 0 0),sL 2 (.vI r.1)],[],[.cells 107 [.opt r.2.1 0 0,.own 3],.view .node x.2.2.1,.dead,.row .u8 5 r.2.2]⟩
def zbj_L (self:strings_Builder→(List Eng.Node)→Int→Option (strings_Builder × Int)):Nat→SubQ:=tblL [(2,zbj_l2 self),(1,zbj_l1 self),(0,zbj_l0 self)]
theorem zbj_sub2 (self:strings_Builder→(List Eng.Node)→Int→Option (strings_Builder × Int)):SubOK (zbj_L self) (zbj_G self) 3 28 80 2 zbj_b2:=qAz (show (zbj_L self) 2=(zbj_l2 self) from by kernel_rfl) fun x R kn kx kr=>by
 simp only [zbj_p2,-eq_self,qAc,qAf,obA,obS,slL,slR,qAb]
 kernel_rfl
theorem zbj_sub1 (self:strings_Builder→(List Eng.Node)→Int→Option (strings_Builder × Int)):SubOK (zbj_L self) (zbj_G self) 3 28 80 1 zbj_b1:=qAz (show (zbj_L self) 1=(zbj_l1 self) from by kernel_rfl) fun x R kn kx kr=>qA0 (step:=fun y=>qEc self y.1 x.1.2.2.2.2.2.1 y.2.1 y.2.2.1 x.2.2.1 x.2.2.2.2.1.1 y.2.2.2) (enc:=fun (y:Int × Int × Bool × (List Int))=>zbj_d1.e ((x.1.1,x.1.2.1,y.1,x.1.2.2.2.1,x.1.2.2.2.2.1,x.1.2.2.2.2.2.1,y.2.1,x.1.2.2.2.2.2.2.2),((y.2.2.1,x.2.1.2),x.2.2.1,x.2.2.2.1,x.2.2.2.2.1,y.2.2.2,x.2.2.2.2.2.2))) (fun y=>by kernel_rfl) (fun y ki=>by simp only [qEc,-eq_self,qAc,qAf,obA,obS,slL,slR,qAb]; kernel_rfl) (x.1.2.2.1,x.1.2.2.2.2.2.2.1,x.2.1.1,x.2.2.2.2.2.1)
theorem zbj_sub0 (self:strings_Builder→(List Eng.Node)→Int→Option (strings_Builder × Int)):SubOK (zbj_L self) (zbj_G self) 3 28 80 0 zbj_b0:=qAz (show (zbj_L self) 0=(zbj_l0 self) from by kernel_rfl) fun x R kn kx kr=>by
 simp only [zbj_p0,-eq_self,qAc,qAf,obA,obS,slL,slR,qAb]
 kernel_rfl
theorem zbj_subs (self:strings_Builder→(List Eng.Node)→Int→Option (strings_Builder × Int)):qAo (zbj_L self) (zbj_G self) 3 28 80 zbj_q:=qAl (show qAp (zbj_L self) (zbj_G self) 3 28 80 [(0,zbj_b0),(1,zbj_b1),(2,zbj_b2)] from ⟨(zbj_sub0 self),(zbj_sub1 self),(zbj_sub2 self),trivial⟩)
theorem zbj_val_t (self:strings_Builder→(List Eng.Node)→Int→Option (strings_Builder × Int)) (hself:qAe Tryd.prog 80 (zbj_ws self)):qAm Tryd.prog 80 (zbj_cs (zbj_t self)):=qAn zbj_chk 28 (zbj_Gok self hself) 3 (fun x=>Nat.le_of_ble_eq_true rfl) (fun y=>rfl) (zbj_subs self) fun x y=>by
 simp only [zbj_t,-eq_self,qAc,qAf,obA,obS,slL,slR,qAb]
 kernel_rfl
def zbj_n:Nat→strings_Builder→(List Eng.Node)→Int→Option (strings_Builder × Int)
 | 0=>fun _ _ _=>none
 | n+1=>zbj_t (zbj_n n)
def zbj_s (b:strings_Builder) (v:(List Eng.Node)) (at_:Int):Option (strings_Builder × Int):=evt fun n=>zbj_n n b v at_
theorem zbj_valn:∀n,qAm Tryd.prog 80 (zbj_cs (zbj_n n))
 | 0=>qAm.zero fun args hp R k=>by
  show ((Dec.d zbj_da args).bind fun x=>(Dec.d zbj_db hp).bind fun y=>none)=none
  cases Dec.d zbj_da args with
  | none=>rfl
  | some x=>cases Dec.d zbj_db hp <;> rfl
 | n+1=>zbj_val_t (zbj_n n) (qAs (zbj_valn n))
theorem zbj_val:qAm Tryd.prog 80 (zbj_cs zbj_s):=qAm.evt zbj_valn (fun args hp R k=>by
  show ((Dec.d zbj_da args).bind fun x=>(Dec.d zbj_db hp).bind fun y=>_)=(((Dec.d zbj_da args).bind fun x=>(Dec.d zbj_db hp).bind fun y=>_):Option (SV × List SB)).bind _
  cases Dec.d zbj_da args with
  | none=>rfl
  | some x =>
   cases Dec.d zbj_db hp with
   | none=>rfl
   | some y=>simp only [obS,Option.bind_assoc]) fun args hp v hp' h=>by
  obtain ⟨x,h1,h2⟩:=Option.bind_eq_some_iff.1 h
  obtain ⟨y,h3,h4⟩:=Option.bind_eq_some_iff.1 h2
  obtain ⟨r,h5,h6⟩:=Option.bind_eq_some_iff.1 h4
  obtain ⟨n,h7⟩:=evt_some h5
  refine ⟨n,?_⟩
  show ((Dec.d zbj_da args).bind fun x=>(Dec.d zbj_db hp).bind fun y=>_)=_
  rw [h1]
  simp only [obS]
  rw [h3]
  simp only [obS]
  exact (congrArg (fun z=>Option.bind z _) h7).trans h6
def zbj_w:CQ:=zbj_ws zbj_s
theorem zbj_ok:qAe Tryd.prog 80 zbj_w:=qAs zbj_val
def zbo_q:IQ:=(.seq (rg 2 [oP 2 (.mv (vI 0))]) (.seq (rg 2 [oM 3 t0,oP 4 (.nk t3),oP 5 (.faddr 1 t4),oP 6 (.load none t5),oP 7 (.len t6),oM 2 t7]) (.canon [(2000000,some 0,.u8,0)] [2] .ret)))
theorem zbo_chk:chk Tryd.prog 81 []=some (zbo_q.erase,[.tmp 2],8):=by kernel_rfl
def zbo_s (b:strings_Builder):Option Int :=
 some (b.buf.length:Int)
def zbo_G:Nat→Option CQ:=tblQ []
theorem zbo_Gok:∀f C,zbo_G f=some C→qAe Tryd.prog f C:=fun f C h=>by cases h
def zbo_L:Nat→SubQ:=tblL []
theorem zbo_subs:qAo zbo_L zbo_G 2 3 8 zbo_q:=qAl (show qAp zbo_L zbo_G 2 3 8 [] from trivial)
def zbo_da:=(dCons (dVC (dCO (dH 0 0))) dNil)
def zbo_db:=(dCons (qAq 107 (dCons (dP 0 0) (dCons (dO 1) dNil))) (dCons (dView .u8) dNil))
def zbo_c:CS:=mkC zbo_da zbo_db (fun x y=>zbo_s (⟨y.1.1,y.2.1⟩:strings_Builder)) (fun x y r=>.c (.o (.vI r))) fun x y r=>[.cells 107 [.opt y.1.1 0 0,.own 1],.view .u8 y.2.1]
theorem zbo_val:qAm Tryd.prog 81 zbo_c:=qAn zbo_chk 3 zbo_Gok 2 (fun x=>Nat.le_of_ble_eq_true rfl) (fun y=>rfl) zbo_subs fun x y=>by
 simp only [zbo_s,-eq_self,qAc,qAf,obA,obS,slL,slR,qAb]
 kernel_rfl
def zbo_w:CQ:=prepQ [(0,some 0,none),(0,some 1,some (.u8,5))] (liftQ [true,false] zbo_c)
theorem zbo_ok:qAe Tryd.prog 81 zbo_w:=qAs zbo_val
def zbp_q:IQ:=(.seq (rg 2 [oP 2 (.mv (.v (.string ⟨#[]⟩)))]) (.seq (.reg 2 (some [0,1,2,3,4,5,6,7,8,9,10,11]) [oM 3 t0,oP 4 (.nk t3),oP 5 (.faddr 1 t4),oP 6 (.load none t5),oP 7 (.ext .sdata [t6]),oM 8 t0,oP 9 (.nk t8),oP 10 (.faddr 1 t9),oP 11 (.load none t10),oP 12 (.len t11),oP 13 (.ext (.ustr 5) [t7,t12]),oM 2 t13]) (.canon [(2000000,some 0,.u8,0)] [2] .ret)))
theorem zbp_chk:chk Tryd.prog 82 []=some (zbp_q.erase,[.tmp 2],14):=by kernel_rfl
def zbp_s (b:strings_Builder):Option (strings_Builder × ByteArray) :=
 gd (0<b.buf.length) <|
 gd ((b.buf.length:Int)=b.buf.length∧0<b.buf.length∧∀x∈b.buf,0≤x∧x<256) <|
 some ((⟨b.addr,[]⟩:strings_Builder),(qAw b.buf))
def zbp_G:Nat→Option CQ:=tblQ []
theorem zbp_Gok:∀f C,zbp_G f=some C→qAe Tryd.prog f C:=fun f C h=>by cases h
def zbp_L:Nat→SubQ:=tblL []
theorem zbp_subs:qAo zbp_L zbp_G 2 3 14 zbp_q:=qAl (show qAp zbp_L zbp_G 2 3 14 [] from trivial)
def zbp_da:=(dCons (dVC (dCO (dH 0 0))) dNil)
def zbp_db:=(dCons (qAq 107 (dCons (dP 0 0) (dCons (dO 1) dNil))) (dCons (dRow .u8 5) dNil))
def zbp_c:CS:=mkC zbp_da zbp_db (fun x y=>zbp_s (⟨y.1.1,y.2.1⟩:strings_Builder)) (fun x y r=>.c (.o (.vS r.2))) fun x y r=>[.cells 107 [.opt r.1.addr 0 0,.own 1],.dead]
theorem zbp_val:qAm Tryd.prog 82 zbp_c:=qAn zbp_chk 3 zbp_Gok 2 (fun x=>Nat.le_of_ble_eq_true rfl) (fun y=>rfl) zbp_subs fun x y=>by
 simp only [zbp_s,-eq_self,qAc,qAf,obA,obS,slL,slR,qAb]
 kernel_rfl
def zbp_w:CQ:=prepQ [(0,some 0,none),(0,some 1,some (.u8,5))] (liftQ [true,true] zbp_c)
theorem zbp_ok:qAe Tryd.prog 82 zbp_w:=qAs zbp_val
def zak_q:IQ:=(.seq (rg 3 [oP 2 (.mv (.v (.string ⟨#[]⟩))),oP 3 (.mv (vI 0))]) (.seq (.seq (rg 7 [oM 5 t0,oP 6 (.call 39 [t5]),oP 7 (.un .not t6)]) (.cond t7 (.seq (rg 3 [oP 2 (.mv (.v (.string ⟨#[]⟩))),oP 3 (.mv (vI 31))]) (.cn [2,3] .ret)) .skip)) (.seq (rg 4 [oP 4 (.alloc 107 [.pointer none,.slice none 0 0])]) (.seq (rg 9 [oM 8 t0,oP 9 (.call 80 [t4,t8,(vI 0)])]) (.seq (.seq (rg 11 [oP 10 (.call 81 [t4]),oP 11 (.bi .gtr t10 (vI 262144))]) (.cond t11 (.seq (rg 3 [oP 2 (.mv (.v (.string ⟨#[]⟩))),oP 3 (.mv (vI 10))]) (.cn [2,3] .ret)) .skip)) (.seq (rg 3 [oP 12 (.call 82 [t4]),oM 2 t12,oP 3 (.mv (vI 0))]) (.cn [2,3] .ret)))))))
theorem zak_chk:chk Tryd.prog 40 []=some (zak_q.erase,[.tmp 2,.tmp 3],13):=by kernel_rfl
def zak_s (v:(List Eng.Node)):Option (ByteArray × Int) :=
 (zal_s v).bind fun r1 =>
 bif (!r1) then (
  some ((⟨#[]⟩:ByteArray),(31:Int)))
 else (
  (zbj_s (⟨false,[]⟩:strings_Builder) v (0:Int)).bind fun r2 =>
  (zbo_s r2.1).bind fun r3 =>
  bif decide ((262144:Int)<r3) then (
   some ((⟨#[]⟩:ByteArray),(10:Int)))
  else (
   (zbp_s r2.1).bind fun r4 =>
   some (r4.2,(0:Int))))
def zak_G:Nat→Option CQ:=tblQ [(39,zal_w),(80,zbj_w),(81,zbo_w),(82,zbp_w)]
theorem zak_Gok:∀f C,zak_G f=some C→qAe Tryd.prog f C:=qAj ⟨zal_ok,zbj_ok,zbo_ok,zbp_ok,trivial⟩
def zak_L:Nat→SubQ:=tblL []
theorem zak_subs:qAo zak_L zak_G 1 5 13 zak_q:=qAl (show qAp zak_L zak_G 1 5 13 [] from trivial)
def zak_da:=(dCons (dVC (dCO (dO 0))) dNil)
def zak_db:=(dCons (dView .node) dNil)
def zak_c:CS:=mkC zak_da zak_db (fun x y=>zak_s y.1) (fun x y r=>.tup [.o (.vS r.1),.o (.vI r.2)]) fun x y r=>[.view .node y.1]
theorem zak_val:qAm Tryd.prog 40 zak_c:=qAn zak_chk 5 zak_Gok 1 (fun x=>Nat.le_of_ble_eq_true rfl) (fun y=>rfl) zak_subs fun x y=>by
 simp only [zak_s,-eq_self,qAc,qAf,obA,obS,slL,slR,qAb]
 kernel_rfl
def zak_w:CQ:=prepQ [(0,none,some (.node,36))] (liftV [false] zak_c)
theorem zak_ok:qAe Tryd.prog 40 zak_w:=qE4 zak_val
def zbl_q:IQ:=(.seq (rg 0 [oP 0 (.mv vF)]) (.seq (rg 3 [oP 7 (.call 42 [(.v (.string ⟨#[32,123,34,97,34,58,91,49,44,34,92,117,48,48,101,57,34,93,125,32]⟩))]),oM 6 t7,oP 8 (.extract t6 0),oP 9 (.extract t6 1),oP 10 (.extract t6 2),oM 1 t8,oM 2 t9,oM 3 t10]) (.seq (rg 5 [oM 12 t1,oP 13 (.call 40 [t12]),oM 11 t13,oP 14 (.extract t11 0),oP 15 (.extract t11 1),oM 4 t14,oM 5 t15]) (.seq (rg 0 [oM 16 t2,oP 17 (.bi .eql t16 (vI 0)),oM 18 t17,oG 19 (.mv t5) 18 true,oG 20 (.bi .eql t19 (vI 0)) 18 true,oP 21 (.pick t18 t20 vF),oM 22 t21,oG 23 (.mv t1) 22 true,oG 24 (.len t23) 22 true,oG 25 (.bi .eql t24 (vI 4)) 22 true,oP 26 (.pick t22 t25 vF),oM 27 t26,oG 28 (.mv t1) 27 true,oG 29 (.iaddr 6 t28 (vI 1)) 27 true,oG 30 (.faddr 1 t29) 27 true,oG 31 (.load none t30) 27 true,oG 32 (.bi .eql t31 (.v (.string ⟨#[97]⟩))) 27 true,oP 33 (.pick t27 t32 vF),oM 34 t33,oG 35 (.mv t1) 34 true,oG 36 (.iaddr 6 t35 (vI 2)) 34 true,oG 37 (.faddr 4 t36) 34 true,oG 38 (.load none t37) 34 true,oG 39 (.bi .eql t38 (vI 1)) 34 true,oP 40 (.pick t34 t39 vF),oM 41 t40,oG 42 (.mv t1) 41 true,oG 43 (.iaddr 6 t42 (vI 3)) 41 true,oG 44 (.faddr 2 t43) 41 true,oG 45 (.load none t44) 41 true,oG 46 (.bi .eql t45 (.v (.string ⟨#[195,169]⟩))) 41 true,oP 47 (.pick t41 t46 vF),oM 48 t47,oG 49 (.mv t4) 48 true,oG 50 (.bi .eql t49 (.v (.string ⟨#[123,34,97,34,58,91,49,44,34,195,169,34,93,125]⟩))) 48 true,oP 51 (.pick t48 t50 vF),oM 52 t51,oG 53 (.mv t1) 52 true,oG 54 (.call 24 [t53,(vI 0),(.v (.string ⟨#[97]⟩))]) 52 true,oG 55 (.bi .eql t54 (vI 1)) 52 true,oP 56 (.pick t52 t55 vF),oM 0 t56]) (.cn [0] .ret)))))
theorem zbl_chk:chk Tryd.prog 45 []=some (zbl_q.erase,[.tmp 0],57):=by kernel_rfl
def zbl_s:Option Bool :=
 (zaj_s (⟨#[32,123,34,97,34,58,91,49,44,34,92,117,48,48,101,57,34,93,125,32]⟩:ByteArray)).bind fun r1 =>
 (zak_s r1.1).bind fun r2 =>
 gd ((((decide (r1.2.1=(0:Int))) && (decide (r2.2=(0:Int)))) && (decide ((r1.1.length:Int)=(4:Int))))=true→0≤(1:Int)∧(1:Int)<r1.1.length) <|
 gd ((((decide (r1.2.1=(0:Int))) && (decide (r2.2=(0:Int)))) && (decide ((r1.1.length:Int)=(4:Int))))=true→(Int.toNat (1:Int))<r1.1.length) <|
 gd ((((decide (r1.2.1=(0:Int))) && (decide (r2.2=(0:Int)))) && (decide ((r1.1.length:Int)=(4:Int))))=true→(Int.toNat (1:Int))<r1.1.length) <|
 gd (((((decide (r1.2.1=(0:Int))) && (decide (r2.2=(0:Int)))) && (decide ((r1.1.length:Int)=(4:Int)))) && (decide (((r1.1.getD (Int.toNat (1:Int)) (ET.dft .node)).key)=(⟨#[97]⟩:ByteArray))))=true→0≤(2:Int)∧(2:Int)<r1.1.length) <|
 gd (((((decide (r1.2.1=(0:Int))) && (decide (r2.2=(0:Int)))) && (decide ((r1.1.length:Int)=(4:Int)))) && (decide (((r1.1.getD (Int.toNat (1:Int)) (ET.dft .node)).key)=(⟨#[97]⟩:ByteArray))))=true→(Int.toNat (2:Int))<r1.1.length) <|
 gd (((((decide (r1.2.1=(0:Int))) && (decide (r2.2=(0:Int)))) && (decide ((r1.1.length:Int)=(4:Int)))) && (decide (((r1.1.getD (Int.toNat (1:Int)) (ET.dft .node)).key)=(⟨#[97]⟩:ByteArray))))=true→(Int.toNat (2:Int))<r1.1.length) <|
 gd ((((((decide (r1.2.1=(0:Int))) && (decide (r2.2=(0:Int)))) && (decide ((r1.1.length:Int)=(4:Int)))) && (decide (((r1.1.getD (Int.toNat (1:Int)) (ET.dft .node)).key)=(⟨#[97]⟩:ByteArray)))) && (decide (((r1.1.getD (Int.toNat (2:Int)) (ET.dft .node)).int)=(1:Int))))=true→0≤(3:Int)∧(3:Int)<r1.1.length) <|
 gd ((((((decide (r1.2.1=(0:Int))) && (decide (r2.2=(0:Int)))) && (decide ((r1.1.length:Int)=(4:Int)))) && (decide (((r1.1.getD (Int.toNat (1:Int)) (ET.dft .node)).key)=(⟨#[97]⟩:ByteArray)))) && (decide (((r1.1.getD (Int.toNat (2:Int)) (ET.dft .node)).int)=(1:Int))))=true→(Int.toNat (3:Int))<r1.1.length) <|
 gd ((((((decide (r1.2.1=(0:Int))) && (decide (r2.2=(0:Int)))) && (decide ((r1.1.length:Int)=(4:Int)))) && (decide (((r1.1.getD (Int.toNat (1:Int)) (ET.dft .node)).key)=(⟨#[97]⟩:ByteArray)))) && (decide (((r1.1.getD (Int.toNat (2:Int)) (ET.dft .node)).int)=(1:Int))))=true→(Int.toNat (3:Int))<r1.1.length) <|
 bif (((((((decide (r1.2.1=(0:Int))) && (decide (r2.2=(0:Int)))) && (decide ((r1.1.length:Int)=(4:Int)))) && (decide (((r1.1.getD (Int.toNat (1:Int)) (ET.dft .node)).key)=(⟨#[97]⟩:ByteArray)))) && (decide (((r1.1.getD (Int.toNat (2:Int)) (ET.dft .node)).int)=(1:Int)))) && (decide (((r1.1.getD (Int.toNat (3:Int)) (ET.dft .node)).text)=(⟨#[195,169]⟩:ByteArray)))) && (decide (r2.1=(⟨#[123,34,97,34,58,91,49,44,34,195,169,34,93,125]⟩:ByteArray)))) then (
  (zai_s r1.1 (0:Int) (⟨#[97]⟩:ByteArray)).bind fun r3 =>
  some (decide (r3=(1:Int))))
 else (
  some false)
def zbl_G:Nat→Option CQ:=tblQ [(42,zaj_w),(40,zak_w),(24,zai_w)]
theorem zbl_Gok:∀f C,zbl_G f=some C→qAe Tryd.prog f C:=qAj ⟨zaj_ok,zak_ok,zai_ok,trivial⟩
def zbl_L:Nat→SubQ:=tblL []
theorem zbl_subs:qAo zbl_L zbl_G 0 6 57 zbl_q:=qAl (show qAp zbl_L zbl_G 0 6 57 [] from trivial)
def zbl_da:=(dNil:Dec Unit (List SV))
def zbl_db:=(dNil:Dec Unit (List SB))
def zbl_c:CS:=mkC zbl_da zbl_db (fun x y=>zbl_s) (fun x y r=>.c (.o (.vB r))) fun x y r=>[]
theorem zbl_val:qAm Tryd.prog 45 zbl_c:=qAn zbl_chk 6 zbl_Gok 0 (fun x=>Nat.le_of_ble_eq_true rfl) (fun y=>rfl) zbl_subs fun x y=>by
 simp only [zbl_s,-eq_self,qAc,qAf,obA,obS,slL,slR,qAb]
 kernel_rfl
def zbl_w:CQ:=liftV [] zbl_c
theorem zbl_ok:qAe Tryd.prog 45 zbl_w:=qAy zbl_val
def zbm_b0:IQ:=(.loop [0,1,5] (.seq (.seq (rg 14 [oM 11 t5,oM 12 t0,oP 13 (.len t12),oP 14 (.bi .lss t11 t13)]) (.cond t14 .skip (.cn [] (.exit 0)))) (.seq (.block 1 (.seq (.reg 25 (some [0,1,2,3,4,5,6,7,8]) [oM 17 t0,oM 18 t5,oP 19 (.iaddr 6 t17 t18),oP 20 (.load (some 6) t19),oM 21 t1,oM 22 t5,oP 23 (.iaddr 6 t21 t22),oP 24 (.load (some 6) t23),oP 25 (.ext (.aggEq true [.int .i64,.str,.str,.bool,.int .i64,.int .i64]) [t20,t24])]) (.cond t25 (.seq (rg 4 [oP 4 (.mv vF)]) (.cn [4] .ret)) .skip))) (rg 5 [oM 15 t5,oP 16 (.bi .add t15 (vI 1)),oM 5 t16]))))
def zbm_q:IQ:=(.seq (rg 4 [oP 4 (.mv vF)]) (.seq (.seq (rg 10 [oM 6 t0,oP 7 (.len t6),oM 8 t1,oP 9 (.len t8),oP 10 (.bi .neq t7 t9)]) (.cond t10 (.seq (rg 4 [oP 4 (.mv vF)]) (.cn [4] .ret)) .skip)) (.seq (.seq (rg 5 [oP 5 (.mv (vI 0))]) (.block 0 (.cn [0,1,5] (.sub 0 zbm_b0)))) (.seq (rg 4 [oP 4 (.mv vT)]) (.cn [4] .ret)))))
theorem zbm_chk:chk Tryd.prog 46 []=some (zbm_q.erase,[.tmp 4],26):=by kernel_rfl
def qFn (i:Int) (a b:List Eng.Node):Option (Int ⊕ (Bool ⊕ Unit)) :=
 bif decide (i<(a.length:Int)) then (
  gd (0≤i∧i<a.length) <|
  gd ((Int.toNat i)<a.length) <|
  gd (0≤i∧i<b.length) <|
  gd ((Int.toNat i)<b.length) <|
  bif (!(decide (((a.getD (Int.toNat i) (ET.dft .node)).kind)=((b.getD (Int.toNat i) (ET.dft .node)).kind)) && (decide (((a.getD (Int.toNat i) (ET.dft .node)).key)=((b.getD (Int.toNat i) (ET.dft .node)).key)) && (decide (((a.getD (Int.toNat i) (ET.dft .node)).text)=((b.getD (Int.toNat i) (ET.dft .node)).text)) && ((((a.getD (Int.toNat i) (ET.dft .node)).whole) == ((b.getD (Int.toNat i) (ET.dft .node)).whole)) && (decide (((a.getD (Int.toNat i) (ET.dft .node)).int)=((b.getD (Int.toNat i) (ET.dft .node)).int)) && (decide (((a.getD (Int.toNat i) (ET.dft .node)).kids)=((b.getD (Int.toNat i) (ET.dft .node)).kids)) && true))))))) then (
   some (.inr (.inl false)))
  else (
   gd (InI64 (i+(1:Int))) <|
   some (.inl (i+(1:Int)))))
 else (
  some (.inr (.inr ())))
def zbm_p0 (i:Int) (a b:List Eng.Node):Option (Bool ⊕ Unit) :=
 qBg (fun x:Int=>qFn x a b) i
def zbm_s (a b:(List Eng.Node)):Option Bool :=
 bif (!decide ((a.length:Int)=(b.length:Int))) then (
  some false)
 else (
  (zbm_p0 (0:Int) a b).bind fun o1=>(Sum.elim (fun (o1_0:Bool) =>
   some o1_0) (fun (o1_1:Unit) =>
   some true)) o1)
def zbm_G:Nat→Option CQ:=tblQ []
theorem zbm_Gok:∀f C,zbm_G f=some C→qAe Tryd.prog f C:=fun f C h=>by cases h
def zbm_d0:=(dQS (dCons (dSO 0 (dO 0)) (dCons (dSO 1 (dO 1)) (dCons (dSO 5 dZ) dNil))) (dCons (dView .node) (dCons (dView .node) dNil)))
def zbm_l0:SubQ:=mkL zbm_d0 (fun x=>zbm_p0 x.1.2.2.1 x.2.1 x.2.2.1) fun x r R kn kx kr=>(Sum.elim (fun (r_0:Bool)=>kr ⟨[sL 4 (.vB r_0)],[],[.view .node x.2.1,.view .node x.2.2.1]⟩) (fun (r_1:Unit)=>kx 0 ⟨[],[],[.view .node x.2.1,.view .node x.2.2.1]⟩)) r
def zbm_L:Nat→SubQ:=tblL [(0,zbm_l0)]
theorem zbm_sub0:SubOK zbm_L zbm_G 2 6 26 0 zbm_b0:=qAz (show zbm_L 0=zbm_l0 from by kernel_rfl) fun x R kn kx kr=>qA0 (step:=fun y=>qFn y x.2.1 x.2.2.1) (enc:=fun (y:Int)=>zbm_d0.e ((x.1.1,x.1.2.1,y,x.1.2.2.2),x.2)) (fun y=>by kernel_rfl) (fun y ki=>by simp only [qFn,-eq_self,qAc,qAf,obA,obS,slL,slR,qAb]; kernel_rfl) x.1.2.2.1
theorem zbm_subs:qAo zbm_L zbm_G 2 6 26 zbm_q:=qAl (show qAp zbm_L zbm_G 2 6 26 [(0,zbm_b0)] from ⟨zbm_sub0,trivial⟩)
def zbm_da:=(dCons (dVC (dCO (dO 0))) (dCons (dVC (dCO (dO 1))) dNil))
def zbm_db:=(dCons (dView .node) (dCons (dView .node) dNil))
def zbm_c:CS:=mkC zbm_da zbm_db (fun x y=>zbm_s y.1 y.2.1) (fun x y r=>.c (.o (.vB r))) fun x y r=>[.view .node y.1,.view .node y.2.1]
theorem zbm_val:qAm Tryd.prog 46 zbm_c:=qAn zbm_chk 6 zbm_Gok 2 (fun x=>Nat.le_of_ble_eq_true rfl) (fun y=>rfl) zbm_subs fun x y=>by
 simp only [zbm_s,-eq_self,qAc,qAf,obA,obS,slL,slR,qAb]
 kernel_rfl
def zbm_w:CQ:=prepQ [(0,none,some (.node,36)),(1,none,some (.node,36))] (liftV [false,false] zbm_c)
theorem zbm_ok:qAe Tryd.prog 46 zbm_w:=qE4 zbm_val
def zbk_b0:IQ:=(.seq (rg 13 [oM 77 t1,oP 78 (.call 42 [t77]),oM 76 t78,oP 79 (.extract t76 0),oP 80 (.extract t76 1),oP 81 (.extract t76 2),oM 11 t79,oM 12 t80,oM 13 t81]) (.seq (.seq (rg 83 [oM 82 t12,oP 83 (.bi .neq t82 (vI 0))]) (.cond t83 (.seq (rg 4 [oM 84 t11,oP 85 (.len t84),oP 86 (.bi .eql t85 (vI 0)),oM 87 t86,oG 88 (.mv t13) 87 true,oG 89 (.bi .geq t88 (vI 0)) 87 true,oP 90 (.pick t87 t89 vF),oM 91 t90,oG 92 (.mv t13) 91 true,oG 93 (.mv t1) 91 true,oG 94 (.lenS t93) 91 true,oG 95 (.bi .leq t92 t94) 91 true,oP 96 (.pick t91 t95 vF),oM 4 t96]) (.cn [4] .ret)) .skip)) (.seq (rg 15 [oM 98 t11,oP 99 (.call 40 [t98]),oM 97 t99,oP 100 (.extract t97 0),oP 101 (.extract t97 1),oM 14 t100,oM 15 t101]) (.seq (rg 18 [oM 103 t14,oP 104 (.call 42 [t103]),oM 102 t104,oP 105 (.extract t102 0),oP 106 (.extract t102 1),oP 107 (.extract t102 2),oM 16 t105,oM 17 t106,oM 18 t107]) (.seq (rg 4 [oM 108 t13,oP 109 (.bi .eql t108 (vI 0)),oM 110 t109,oG 111 (.mv t11) 110 true,oG 112 (.call 39 [t111]) 110 true,oP 113 (.pick t110 t112 vF),oM 114 t113,oG 115 (.mv t15) 114 true,oG 116 (.bi .eql t115 (vI 0)) 114 true,oP 117 (.pick t114 t116 vF),oM 118 t117,oG 119 (.mv t14) 118 true,oG 120 (.lenS t119) 118 true,oG 121 (.mv t1) 118 true,oG 122 (.lenS t121) 118 true,oG 123 (.bi .leq t120 t122) 118 true,oP 124 (.pick t118 t123 vF),oM 125 t124,oG 126 (.mv t17) 125 true,oG 127 (.bi .eql t126 (vI 0)) 125 true,oP 128 (.pick t125 t127 vF),oM 129 t128,oG 130 (.mv t11) 129 true,oG 131 (.mv t16) 129 true,oG 132 (.call 46 [t130,t131]) 129 true,oP 133 (.pick t129 t132 vF),oM 4 t133]) (.cn [4] .ret))))))
def zbk_q:IQ:=(.seq (rg 4 [oP 4 (.mv vF)]) (.seq (.seq (rg 20 [oP 19 (.call 45 []),oP 20 (.un .not t19)]) (.cond t20 (.seq (rg 4 [oP 4 (.mv vF)]) (.cn [4] .ret)) .skip)) (.seq (.seq (rg 22 [oM 21 t0,oP 22 (.call 14 [t21])]) (.cond t22 (.seq (rg 4 [oP 4 (.mv vT)]) (.cn [4] .ret)) .skip)) (.seq (rg 5 [oM 23 t0,oP 24 (.call 39 [t23]),oM 5 t24]) (.seq (rg 7 [oM 26 t0,oP 27 (.call 40 [t26]),oM 25 t27,oP 28 (.extract t25 0),oP 29 (.extract t25 1),oM 6 t28,oM 7 t29]) (.seq (.seq (rg 59 [oM 30 t5,oP 31 (.un .not t30),oM 32 t31,oG 33 (.mv t7) 32 true,oG 34 (.bi .neq t33 (vI 31)) 32 true,oP 35 (.pick t32 t34 vF),oM 36 t35,oG 37 (.mv t5) 36 false,oG 38 (.mv t37) 36 false,oG 39 (.mv t7) 38 true,oG 40 (.bi .neq t39 (vI 0)) 38 true,oG 41 (.pick t38 t40 vF) 36 false,oG 42 (.mv t41) 36 false,oG 43 (.mv t7) 42 true,oG 44 (.bi .neq t43 (vI 10)) 42 true,oG 45 (.pick t42 t44 vF) 36 false,oP 46 (.pick t36 vT t45),oM 47 t46,oG 48 (.mv t7) 47 false,oG 49 (.bi .neq t48 (vI 0)) 47 false,oG 50 (.mv t49) 47 false,oG 51 (.mv t6) 50 true,oG 52 (.bi .neq t51 (.v (.string ⟨#[]⟩))) 50 true,oG 53 (.pick t50 t52 vF) 47 false,oP 54 (.pick t47 vT t53),oM 55 t54,oG 56 (.mv t6) 55 false,oG 57 (.lenS t56) 55 false,oG 58 (.bi .gtr t57 (vI 262144)) 55 false,oP 59 (.pick t55 vT t58)]) (.cond t59 (.seq (rg 4 [oP 4 (.mv vF)]) (.cn [4] .ret)) .skip)) (.seq (.seq (rg 61 [oM 60 t7,oP 61 (.bi .eql t60 (vI 0))]) (.cond t61 (.seq (rg 10 [oM 63 t6,oP 64 (.call 42 [t63]),oM 62 t64,oP 65 (.extract t62 0),oP 66 (.extract t62 1),oP 67 (.extract t62 2),oM 8 t65,oM 9 t66,oM 10 t67]) (.seq (rg 75 [oM 68 t9,oP 69 (.bi .neq t68 (vI 0)),oM 70 t69,oG 71 (.mv t0) 70 false,oG 72 (.mv t8) 70 false,oG 73 (.call 46 [t71,t72]) 70 false,oG 74 (.un .not t73) 70 false,oP 75 (.pick t70 vT t74)]) (.cond t75 (.seq (rg 4 [oP 4 (.mv vF)]) (.cn [4] .ret)) .skip))) .skip)) (.cn [1] (.sub 0 zbk_b0)))))))))
theorem zbk_chk:chk Tryd.prog 9 []=some (zbk_q.erase,[.tmp 4],134):=by kernel_rfl
def zbk_p0 (text:ByteArray):Option Bool :=
 (zaj_s text).bind fun r7 =>
 bif (!decide (r7.2.1=(0:Int))) then (
  some (((decide ((r7.1.length:Int)=(0:Int))) && (decide ((0:Int)≤r7.2.2))) && (decide (r7.2.2≤(text.size:Int)))))
 else (
  (zak_s r7.1).bind fun r8 =>
  (zaj_s r8.1).bind fun r9 =>
  bif decide (r7.2.2=(0:Int)) then (
   (zal_s r7.1).bind fun r10 =>
   bif (((r10 && (decide (r8.2=(0:Int)))) && (decide ((r8.1.size:Int)≤(text.size:Int)))) && (decide (r9.2.1=(0:Int)))) then (
    (zbm_s r7.1 r9.1).bind fun r11 =>
    some r11)
   else (
    some false))
  else (
   some false))
def zbk_s (v:(List Eng.Node)) (text:ByteArray):Option Bool :=
 (zbl_s).bind fun r1 =>
 bif (!r1) then (
  some false)
 else (
  (zbn_s v).bind fun r2 =>
  bif r2 then (
   some true)
  else (
   (zal_s v).bind fun r3 =>
   (zak_s v).bind fun r4 =>
   bif (((((!r3) && (!decide (r4.2=(31:Int)))) || ((r3 && (!decide (r4.2=(0:Int)))) && (!decide (r4.2=(10:Int))))) || ((!decide (r4.2=(0:Int))) && (!decide (r4.1=(⟨#[]⟩:ByteArray))))) || (decide ((262144:Int)<(r4.1.size:Int)))) then (
    some false)
   else (
    bif decide (r4.2=(0:Int)) then (
     (zaj_s r4.1).bind fun r5 =>
     bif (!decide (r5.2.1=(0:Int))) then (
      some false)
     else (
      (zbm_s v r5.1).bind fun r6 =>
      bif (!r6) then (
       some false)
      else (
       (zbk_p0 text).bind fun o12 =>
       some o12)))
    else (
     (zbk_p0 text).bind fun o13 =>
     some o13))))
def zbk_G:Nat→Option CQ:=tblQ [(45,zbl_w),(14,zbn_w),(39,zal_w),(40,zak_w),(42,zaj_w),(46,zbm_w)]
theorem zbk_Gok:∀f C,zbk_G f=some C→qAe Tryd.prog f C:=qAj ⟨zbl_ok,zbn_ok,zal_ok,zak_ok,zaj_ok,zbm_ok,trivial⟩
def zbk_d0:=(dQS (dCons (dSO 1 dS) dNil) (dCons (dView .node) dNil))
def zbk_l0:SubQ:=mkL zbk_d0 (fun x=>zbk_p0 x.1.1) fun x r R kn kx kr=>kr ⟨[sL 4 (.vB r)],[],[.view .node x.2.1]⟩
def zbk_L:Nat→SubQ:=tblL [(0,zbk_l0)]
theorem zbk_sub0:SubOK zbk_L zbk_G 1 19 134 0 zbk_b0:=qAz (show zbk_L 0=zbk_l0 from by kernel_rfl) fun x R kn kx kr=>by
 simp only [zbk_p0,-eq_self,qAc,qAf,obA,obS,slL,slR,qAb]
 kernel_rfl
theorem zbk_subs:qAo zbk_L zbk_G 1 19 134 zbk_q:=qAl (show qAp zbk_L zbk_G 1 19 134 [(0,zbk_b0)] from ⟨zbk_sub0,trivial⟩)
def zbk_da:=(dCons (dVC (dCO (dO 0))) (dCons (dVC (dCO dS)) dNil))
def zbk_db:=(dCons (dView .node) dNil)
def zbk_c:CS:=mkC zbk_da zbk_db (fun x y=>zbk_s y.1 x.2.1) (fun x y r=>.c (.o (.vB r))) fun x y r=>[.view .node y.1]
theorem zbk_val:qAm Tryd.prog 9 zbk_c:=qAn zbk_chk 19 zbk_Gok 1 (fun x=>Nat.le_of_ble_eq_true rfl) (fun y=>rfl) zbk_subs fun x y=>by
 simp only [zbk_s,-eq_self,qAc,qAf,obA,obS,slL,slR,qAb]
 kernel_rfl
end
end Go.Proofs.YtdcoiccdbgcpaaaDoor
