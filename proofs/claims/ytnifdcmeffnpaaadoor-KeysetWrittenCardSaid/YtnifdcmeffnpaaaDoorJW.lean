/-
  Functions as the engine reads them (printed by gen.py).
-/
import Derived.Test.YtnifdcmeffnpaaaDoorEngO
import Derived.Test.YtnifdcmeffnpaaaDoorProg
import Derived.Test.YtnifdcmeffnpaaaDoorUtf8
import Derived.Test.YtnifdcmeffnpaaaDoorGC
import Derived.Test.YtnifdcmeffnpaaaDoorPUtf
import Derived.Test.YtnifdcmeffnpaaaDoorJP
namespace Go.Proofs.YtnifdcmeffnpaaaDoor
open Go.Eng
set_option linter.unusedVariables false
set_option linter.unusedSimpArgs false
set_option maxRecDepth 100000
noncomputable section
structure qG9 where
 addr:Bool
 buf:(List Int)
def zch_q:IQ:=(.join [(2000000,some 0,.u8,0)] [] (.seq (rg 6 (rF 2 t0 0++[oP 6 (.ext (.ptrEq false) [t5,(.v (.pointer none))])])) (.cond t6 (rg 0 ([oM 7 t0,oM 8 t0,oP 9 (.ext .toUns [t8]),oP 10 (.ext .noEsc [t9]),oP 11 (.ext (.fromUns 80 2) [t10])]++rS 12 t7 0 t11)) (.seq (rg 19 (rF 14 t0 0++[oM 18 t0,oP 19 (.ext (.ptrEq true) [t17,t18])])) (.cond t19 .bad .skip)))))
theorem zch_chk:chk Tryd.prog 64 []=some (zch_q.erase,[],20):=by kernel_rfl
def zch_s (b:qG9):Option qG9 :=
 bif (!b.addr) then (
  some (⟨true,b.buf⟩:qG9))
 else (
  bif (!b.addr) then (
   none)
  else (
   some b))
def zch_G:Nat→Option CQ:=tblQ []
theorem zch_Gok:∀f C,zch_G f=some C→qAe Tryd.prog f C:=fun f C h=>by cases h
def zch_L:Nat→SubQ:=tblL []
theorem zch_subs:qAo zch_L zch_G 2 2 20 zch_q:=qAk (show qAr zch_L zch_G 2 2 20 [] from tV)
def zch_da:=(qAb (dVC (dCO (dH 0 0))) dNil)
def zDJW1:=(dCells 80 (qAb (dP 0 0) (qAb (dO 1) dNil)))
def zch_db:=(qAb zDJW1 (qAb (qBh .u8) dNil))
def zch_c:CS:=mkC zch_da zch_db (fun x y=>zch_s (⟨y.1.1,y.2.1⟩:qG9)) (fun x y r=>.tup []) fun x y r=>[.cells 80 [.opt r.addr 0 0,.own 1],.view .u8 y.2.1]
theorem zch_val:qAl Tryd.prog 64 zch_c:=qAn zch_chk 2 zch_Gok 2 (fun x=>Nat.le_of_ble_eq_true rfl) (fun y=>rfl) zch_subs fun x y=>by
 simp only [zch_s,-eq_self,qAc,qAf,obA,obS,slL,slR,qAd];kernel_rfl
def zch_w:CQ:=qBk [(0,some 0,none),(0,some 1,some (.u8,5))] (qB5 [true,false] zch_c)
theorem zch_ok:qAe Tryd.prog 64 zch_w:=qAs zch_val
def zcg_q:IQ:=(.seq (rg 5 [oP 4 (.mv (vI 0)),oP 5 (.mv (.v (.nilIface)))]) (.seq (rg 7 [oM 6 t0,oP 7 (.call 64 [t6])]) (.seq (rg 0 ([oM 8 t0]++rF 9 t0 1++[oM 13 t1,oP 14 (.ext (.appStr 5) [t12,t13])]++rS 15 t8 1 t14)) (.seq (rg 5 [oM 17 t1,oP 18 (.lenS t17),oM 4 t18,oP 5 (.mv (.v (.nilIface)))]) (.canon [(2000000,some 0,.u8,0)] [4,5] .ret)))))
theorem zcg_chk:chk Tryd.prog 50 []=some (zcg_q.erase,[.tmp 4,.tmp 5],19):=by kernel_rfl
def zcg_s (b:qG9) (s:BA):Option (qG9 × Int × Unit) :=
 (zch_s b).bind fun r3 =>
 gd (b.buf.length+s.size≤140737488355328) <|
 some ((⟨r3.addr,(b.buf++(qAh s))⟩:qG9),(s.size:Int),())
def zcg_G:Nat→Option CQ:=tblQ [(64,zch_w)]
theorem zcg_Gok:∀f C,zcg_G f=some C→qAe Tryd.prog f C:=qAi ⟨zch_ok,tV⟩
def zcg_L:Nat→SubQ:=tblL []
theorem zcg_subs:qAo zcg_L zcg_G 2 6 19 zcg_q:=qAk (show qAr zcg_L zcg_G 2 6 19 [] from tV)
def zcg_da:=(qAb (dVC (dCO (dH 0 0))) (qAb (dVC (dCO dS)) dNil))
def zcg_db:=(qAb zDJW1 (qAb (dRow .u8 5) dNil))
def zcg_c:CS:=mkC zcg_da zcg_db (fun x y=>zcg_s (⟨y.1.1,y.2.1⟩:qG9) x.2.1) (fun x y r=>.tup [.o (.vI r.2.1),.o (.val (.nilIface))]) fun x y r=>[.cells 80 [.opt r.1.addr 0 0,.own 2],.dead,.row .u8 5 r.1.buf]
theorem zcg_val:qAl Tryd.prog 50 zcg_c:=qAn zcg_chk 6 zcg_Gok 2 (fun x=>Nat.le_of_ble_eq_true rfl) (fun y=>rfl) zcg_subs fun x y=>by
 simp only [zcg_s,-eq_self,qAc,qAf,obA,obS,slL,slR,qAd];kernel_rfl
def zcg_w:CQ:=qBk [(0,some 0,none),(0,some 1,some (.u8,5))] (qB5 [true,true] zcg_c)
theorem zcg_ok:qAe Tryd.prog 50 zcg_w:=qAs zcg_val
def zcf_q:IQ:=(.seq (rg 4 [oP 4 (.mv (.v (.nilIface)))]) (.seq (rg 6 [oM 5 t0,oP 6 (.call 64 [t5])]) (.seq (rg 0 ([oM 7 t0]++rF 8 t0 1++[oM 12 t1,oP 13 (.bslice 5 1 1 [.int .u8 0] [(0,t12)]),oP 14 (.append 5 1 1 [.int .u8 0] t11 t13)]++rS 15 t7 1 t14)) (.seq (rg 4 [oP 4 (.mv (.v (.nilIface)))]) (.canon [(2000000,some 0,.u8,0)] [4] .ret)))))
theorem zcf_chk:chk Tryd.prog 52 []=some (zcf_q.erase,[.tmp 4],17):=by kernel_rfl
def zcf_s (b:qG9) (c:Int):Option (qG9 × Unit) :=
 (zch_s b).bind fun r3 =>
 gd (b.buf.length+([c]:List Int).length≤9223372036854775807∧(b.buf.length+([c]:List Int).length)*1≤140737488355328) <|
 some ((⟨r3.addr,(b.buf++[c])⟩:qG9),())
def zcf_G:Nat→Option CQ:=tblQ [(64,zch_w)]
theorem zcf_Gok:∀f C,zcf_G f=some C→qAe Tryd.prog f C:=qAi ⟨zch_ok,tV⟩
def zcf_L:Nat→SubQ:=tblL []
theorem zcf_subs:qAo zcf_L zcf_G 2 5 17 zcf_q:=qAk (show qAr zcf_L zcf_G 2 5 17 [] from tV)
def zDJW4:=(qAb (dVC (dCO (dI .u8))) dNil)
def zcf_da:=(qAb (dVC (dCO (dH 0 0))) zDJW4)
def zcf_db:=(qAb zDJW1 (qAb (dRow .u8 5) dNil))
def zcf_c:CS:=mkC zcf_da zcf_db (fun x y=>zcf_s (⟨y.1.1,y.2.1⟩:qG9) x.2.1) (fun x y r=>.c (.o (.val (.nilIface)))) fun x y r=>[.cells 80 [.opt r.1.addr 0 0,.own 2],.dead,.row .u8 5 r.1.buf]
theorem zcf_val:qAl Tryd.prog 52 zcf_c:=qAn zcf_chk 5 zcf_Gok 2 (fun x=>Nat.le_of_ble_eq_true rfl) (fun y=>rfl) zcf_subs fun x y=>by
 simp only [zcf_s,-eq_self,qAc,qAf,obA,obS,slL,slR,qAd];kernel_rfl
def zcf_w:CQ:=qBk [(0,some 0,none),(0,some 1,some (.u8,5))] (qB5 [true,true] zcf_c)
theorem zcf_ok:qAe Tryd.prog 52 zcf_w:=qAs zcf_val
def zag_q:IQ:=(.seq (rg 4 [oP 4 (.mv (vI 0))]) (.seq (rg 4 [oM 5 t0,oM 6 t1,oP 7 (.ext .idxByte [t5,t6]),oM 4 t7]) (.cn [4] .ret)))
theorem zag_chk:chk Tryd.prog 73 []=some (zag_q.erase,[.tmp 4],8):=by kernel_rfl
def zag_s (s:BA) (c:Int):Option Int :=
 some (Lib.indexByte s.data.toList (Int.toNat c).toUInt8)
def zag_G:Nat→Option CQ:=tblQ []
theorem zag_Gok:∀f C,zag_G f=some C→qAe Tryd.prog f C:=fun f C h=>by cases h
def zag_L:Nat→SubQ:=tblL []
theorem zag_subs:qAo zag_L zag_G 0 5 8 zag_q:=qAk (show qAr zag_L zag_G 0 5 8 [] from tV)
def zag_da:=(qAb (dVC (dCO dS)) zDJW4)
def zag_db:=(dNil:Dec Unit (List SB))
def zag_c:CS:=mkC zag_da zag_db (fun x y=>zag_s x.1 x.2.1) (fun x y r=>.c (.o (.vI r))) fun x y r=>[]
theorem zag_val:qAl Tryd.prog 73 zag_c:=qAn zag_chk 5 zag_Gok 0 (fun x=>Nat.le_of_ble_eq_true rfl) (fun y=>rfl) zag_subs fun x y=>by
 simp only [zag_s,-eq_self,qAc,qAf,obA,obS,slL,slR,qAd];kernel_rfl
def zag_w:CQ:=qCu [] zag_c
theorem zag_ok:qAe Tryd.prog 73 zag_w:=qAx zag_val
def zcj_q:IQ:=(.seq (rg 4 [oP 4 (.mv (vI 0))]) (.seq (rg 4 [oM 5 t0,oM 6 t1,oP 7 (.call 73 [t5,t6]),oM 4 t7]) (.cn [4] .ret)))
theorem zcj_chk:chk Tryd.prog 65 []=some (zcj_q.erase,[.tmp 4],8):=by kernel_rfl
def zcj_s (s:BA) (c:Int):Option Int :=
 (zag_s s c).bind fun r1 =>
 some r1
def zcj_G:Nat→Option CQ:=tblQ [(73,zag_w)]
theorem zcj_Gok:∀f C,zcj_G f=some C→qAe Tryd.prog f C:=qAi ⟨zag_ok,tV⟩
def zcj_L:Nat→SubQ:=tblL []
theorem zcj_subs:qAo zcj_L zcj_G 0 5 8 zcj_q:=qAk (show qAr zcj_L zcj_G 0 5 8 [] from tV)
def zcj_da:=(qAb (dVC (dCO dS)) zDJW4)
def zcj_db:=(dNil:Dec Unit (List SB))
def zcj_c:CS:=mkC zcj_da zcj_db (fun x y=>zcj_s x.1 x.2.1) (fun x y r=>.c (.o (.vI r))) fun x y r=>[]
theorem zcj_val:qAl Tryd.prog 65 zcj_c:=qAn zcj_chk 5 zcj_Gok 0 (fun x=>Nat.le_of_ble_eq_true rfl) (fun y=>rfl) zcj_subs fun x y=>by
 simp only [zcj_s,-eq_self,qAc,qAf,obA,obS,slL,slR,qAd];kernel_rfl
def zcj_w:CQ:=qCu [] zcj_c
theorem zcj_ok:qAe Tryd.prog 65 zcj_w:=qAx zcj_val
def zap_b0:IQ:=(.loop [0,1,4,11,12] (.seq (rg 13 [oP 13 (.bi .lss t12 t11)]) (.seq (.cond t13 .skip (.cn [0,1,4] (.exit 0))) (.seq (.block 1 (.seq (rg 5 [oM 14 t12,oM 5 t14]) (.seq (rg 6 [oM 15 t1,oM 16 t5,oP 17 (.index t15 t16),oM 6 t17]) (.seq (.seq (rg 27 [oM 18 t6,oP 19 (.bi .geq t18 (vC 32)),oM 20 t19,oF 21 (.mv t6) 20,oF 22 (.bi .neq t21 (vC 34)) 20,oP 23 (.pick t20 t22 vF),oM 24 t23,oF 25 (.mv t6) 24,oF 26 (.bi .neq t25 (vC 92)) 24,oP 27 (.pick t24 t26 vF)]) (.cond t27 (.exit 1) .skip)) (.seq (rg 33 [oM 28 t0,oM 29 t1,oM 30 t4,oM 31 t5,oP 32 (.sub none t29 (some t30) (some t31)),oP 33 (.call 50 [t28,t32])]) (.seq (rg 4 [oM 34 t5,oP 35 (.bi .add t34 (vI 1)),oM 4 t35]) (.seq (rg 7 [oM 36 t6,oP 37 (.call 65 [(.v (.string ⟨#[8,12,10,13,9,34,92]⟩)),t36]),oM 7 t37]) (.seq (rg 39 [oM 38 t7,oP 39 (.bi .geq t38 (vI 0))]) (.cond t39 (rg 46 [oM 40 t0,oM 41 t7,oM 42 t7,oP 43 (.bi .add t42 (vI 1)),oP 44 (.sub none (.v (.string ⟨#[98,102,110,114,116,34,92]⟩)) (some t41) (some t43)),oP 45 (.bi .add (.v (.string ⟨#[92]⟩)) t44),oP 46 (.call 50 [t40,t45])]) (.reg 62 (some [0,1,2,3,4,5,6,7,8,9,10,11,12,13,14,15]) [oM 47 t0,oM 48 t6,oP 49 (.bi .shr t48 (.v (.int .u64 4))),oM 50 t6,oP 51 (.bi .shr t50 (.v (.int .u64 4))),oP 52 (.bi .add t51 (vC 1)),oP 53 (.sub none (.v (.string ⟨#[48,49,50,51,52,53,54,55,56,57,97,98,99,100,101,102]⟩)) (some t49) (some t52)),oP 54 (.bi .add (.v (.string ⟨#[92,117,48,48]⟩)) t53),oM 55 t6,oP 56 (.bi .and t55 (vC 15)),oM 57 t6,oP 58 (.bi .and t57 (vC 15)),oP 59 (.bi .add t58 (vC 1)),oP 60 (.sub none (.v (.string ⟨#[48,49,50,51,52,53,54,55,56,57,97,98,99,100,101,102]⟩)) (some t56) (some t59)),oP 61 (.bi .add t54 t60),oP 62 (.callL 50 [t47,t61])])))))))))) (rg 12 [oP 63 (.bi .add t12 (vI 1)),oM 12 t63])))))
def zap_q:IQ:=(.join [(2000000,some 0,.u8,0)] [] (.seq (rg 9 [oM 8 t0,oP 9 (.call 52 [t8,(vC 34)])]) (.seq (rg 4 [oP 4 (.mv (vI 0))]) (.seq (.seq (rg 12 [oM 10 t1,oP 11 (.lenS t10),oP 12 (.mv (vI 0))]) (.block 0 (.cn [0,1,4,11,12] (.sub 0 zap_b0)))) (rg 69 [oM 64 t0,oM 65 t1,oM 66 t4,oP 67 (.sub none t65 (some t66) none),oP 68 (.bi .add t67 (.v (.string ⟨#[34]⟩))),oP 69 (.call 50 [t64,t68])])))))
theorem zap_chk:chk Tryd.prog 51 [62]=some (zap_q.erase,[],70):=by kernel_rfl
def qD8 (s:BA) (from_ x11_ x12_:Int) (b_addr:Bool) (b_buf:List Int):Option ((Int × Int × Bool × (List Int)) ⊕ (Int × Bool × (List Int))) :=
 bif decide (x12_<x11_) then (
  gd (0≤x12_∧x12_<s.size) <|
  bif (((decide ((32:Int)≤(bAt s x12_))) && (!decide ((bAt s x12_)=(34:Int)))) && (!decide ((bAt s x12_)=(92:Int)))) then (
   gd (qAj (x12_+(1:Int))) <|
   some (.inl (from_,(x12_+(1:Int)),b_addr,b_buf)))
  else (
   gd (0≤from_∧from_≤x12_∧x12_≤s.size) <|
   (zcg_s (⟨b_addr,b_buf⟩:qG9) (s.extract (Int.toNat from_) (Int.toNat x12_))).bind fun r22 =>
   gd (qAj (x12_+(1:Int))) <|
   (zcj_s (⟨#[8,12,10,13,9,34,92]⟩:BA) (bAt s x12_)).bind fun r23 =>
   bif decide ((0:Int)≤r23) then (
    gd (qAj (r23+(1:Int))) <|
    gd (0≤r23∧r23≤(r23+(1:Int))∧(r23+(1:Int))≤(⟨#[98,102,110,114,116,34,92]⟩:BA).size) <|
    gd ((⟨#[92]⟩:BA).size+((⟨#[98,102,110,114,116,34,92]⟩:BA).extract (Int.toNat r23) (Int.toNat (r23+(1:Int)))).size≤9223372036854775807) <|
    (zcg_s r22.1 ((⟨#[92]⟩:BA)++((⟨#[98,102,110,114,116,34,92]⟩:BA).extract (Int.toNat r23) (Int.toNat (r23+(1:Int)))))).bind fun r24 =>
    gd (qAj (x12_+(1:Int))) <|
    some (.inl ((x12_+(1:Int)),(x12_+(1:Int)),r24.1.addr,r24.1.buf)))
   else (
    gd (0≤(4:Int)) <|
    gd (0≤(4:Int)) <|
    gd (0≤((bAt s x12_) / 16)∧((bAt s x12_) / 16)≤((((bAt s x12_) / 16)+(1:Int)) % 256)∧((((bAt s x12_) / 16)+(1:Int)) % 256)≤(⟨#[48,49,50,51,52,53,54,55,56,57,97,98,99,100,101,102]⟩:BA).size) <|
    gd ((⟨#[92,117,48,48]⟩:BA).size+((⟨#[48,49,50,51,52,53,54,55,56,57,97,98,99,100,101,102]⟩:BA).extract (Int.toNat ((bAt s x12_) / 16)) (Int.toNat ((((bAt s x12_) / 16)+(1:Int)) % 256))).size≤9223372036854775807) <|
    gd (0≤(qBg .u8 (bAt s x12_) (15:Int))∧(qBg .u8 (bAt s x12_) (15:Int))≤(((qBg .u8 (bAt s x12_) (15:Int))+(1:Int)) % 256)∧(((qBg .u8 (bAt s x12_) (15:Int))+(1:Int)) % 256)≤(⟨#[48,49,50,51,52,53,54,55,56,57,97,98,99,100,101,102]⟩:BA).size) <|
    gd (((⟨#[92,117,48,48]⟩:BA)++((⟨#[48,49,50,51,52,53,54,55,56,57,97,98,99,100,101,102]⟩:BA).extract (Int.toNat ((bAt s x12_) / 16)) (Int.toNat ((((bAt s x12_) / 16)+(1:Int)) % 256)))).size+((⟨#[48,49,50,51,52,53,54,55,56,57,97,98,99,100,101,102]⟩:BA).extract (Int.toNat (qBg .u8 (bAt s x12_) (15:Int))) (Int.toNat (((qBg .u8 (bAt s x12_) (15:Int))+(1:Int)) % 256))).size≤9223372036854775807) <|
    (zcg_s r22.1 (((⟨#[92,117,48,48]⟩:BA)++((⟨#[48,49,50,51,52,53,54,55,56,57,97,98,99,100,101,102]⟩:BA).extract (Int.toNat ((bAt s x12_) / 16)) (Int.toNat ((((bAt s x12_) / 16)+(1:Int)) % 256))))++((⟨#[48,49,50,51,52,53,54,55,56,57,97,98,99,100,101,102]⟩:BA).extract (Int.toNat (qBg .u8 (bAt s x12_) (15:Int))) (Int.toNat (((qBg .u8 (bAt s x12_) (15:Int))+(1:Int)) % 256))))).bind fun r25 =>
    gd (qAj (x12_+(1:Int))) <|
    some (.inl ((x12_+(1:Int)),(x12_+(1:Int)),r25.1.addr,r25.1.buf)))))
 else (
  some (.inr (from_,b_addr,b_buf)))
def zap_p0 (s:BA) (from_ x11_ x12_:Int) (b_addr:Bool) (b_buf:List Int):Option (Int × Bool × (List Int)) :=
 qBm (fun x:(Int × Int × Bool × (List Int))=>qD8 s x.1 x11_ x.2.1 x.2.2.1 x.2.2.2) (from_,x12_,b_addr,b_buf)
def zap_s (b:qG9) (s:BA):Option qG9 :=
 (zcf_s b (34:Int)).bind fun r21 =>
 (zap_p0 s (0:Int) (s.size:Int) (0:Int) r21.1.addr r21.1.buf).bind fun o26 =>
 gd (0≤o26.1∧o26.1≤(s.size:Int)∧(s.size:Int)≤s.size) <|
 gd ((s.extract (Int.toNat o26.1) s.size).size+(⟨#[34]⟩:BA).size≤9223372036854775807) <|
 (zcg_s (⟨o26.2.1,o26.2.2⟩:qG9) ((s.extract (Int.toNat o26.1) s.size)++(⟨#[34]⟩:BA))).bind fun r27 =>
 some r27.1
def zap_G:Nat→Option CQ:=tblQ [(52,zcf_w),(50,zcg_w),(65,zcj_w)]
theorem zap_Gok:∀f C,zap_G f=some C→qAe Tryd.prog f C:=qAi ⟨zcf_ok,zcg_ok,zcj_ok,tV⟩
def zDJW3:=(dCells 80 (qAb (dP 0 0) (qAb (dO 2) dNil)))
def zap_d0:=(dQS (qAb (dSO 0 (dH 0 0)) (qAb (dSO 1 dS) (qAb (dSO 4 dZ) (qAb (dSO 11 dZ) (qAb (dSO 12 dZ) dNil))))) (qAb zDJW3 (qAb dDead (qAb (dRow .u8 5) dNil))))
def zap_l0:SubQ:=mkL zap_d0 (fun x=>zap_p0 x.1.2.1 x.1.2.2.1 x.1.2.2.2.1 x.1.2.2.2.2.1 x.2.1.1 x.2.2.2.1) fun x r R kn kx kr=>kx 0 ⟨[sL 0 (.hd 0 0),sL 1 (.vS x.1.2.1),sL 4 (.vI r.1)],[],[.cells 80 [.opt r.2.1 0 0,.own 2],.dead,.row .u8 5 r.2.2]⟩
def zap_L:Nat→SubQ:=tblL [(0,zap_l0)]
theorem zap_sub0:qBu zap_L zap_G 2 13 70 0 zap_b0:=qAw (show zap_L 0=zap_l0 from by kernel_rfl) fun x R kn kx kr=>qAv (step:=fun y=>qD8 x.1.2.1 y.1 x.1.2.2.2.1 y.2.1 y.2.2.1 y.2.2.2) (enc:=fun (y:Int × Int × Bool × (List Int))=>zap_d0.e ((x.1.1,x.1.2.1,y.1,x.1.2.2.2.1,y.2.1,x.1.2.2.2.2.2),((y.2.2.1,x.2.1.2),x.2.2.1,y.2.2.2,x.2.2.2.2))) (fun y=>by kernel_rfl) (fun y ki=>by simp only [qD8,-eq_self,qAc,qAf,obA,obS,slL,slR,qAd]; kernel_rfl) (x.1.2.2.1,x.1.2.2.2.2.1,x.2.1.1,x.2.2.2.1)
theorem zap_subs:qAo zap_L zap_G 2 13 70 zap_q:=qAk (show qAr zap_L zap_G 2 13 70 [(0,zap_b0)] from ⟨zap_sub0,tV⟩)
def zap_da:=(qAb (dVC (dCO (dH 0 0))) (qAb (dVC (dCO dS)) dNil))
def zap_db:=(qAb zDJW1 (qAb (dRow .u8 5) dNil))
def zap_c:CS:=mkC zap_da zap_db (fun x y=>zap_s (⟨y.1.1,y.2.1⟩:qG9) x.2.1) (fun x y r=>.tup []) fun x y r=>[.cells 80 [.opt r.addr 0 0,.own 2],.dead,.row .u8 5 r.buf]
theorem zap_val:qAl Tryd.prog 51 zap_c:=qAn zap_chk 13 zap_Gok 2 (fun x=>Nat.le_of_ble_eq_true rfl) (fun y=>rfl) zap_subs fun x y=>by
 simp only [zap_s,-eq_self,qAc,qAf,obA,obS,slL,slR,qAd];kernel_rfl
def zap_w:CQ:=qBk [(0,some 0,none),(0,some 1,some (.u8,5))] (qB5 [true,true] zap_c)
theorem zap_ok:qAe Tryd.prog 51 zap_w:=qAs zap_val
def zbk_da:=(qAb (dVC (dCO (dH 0 0))) (qAb (dVC (dCO (dO 1))) (qAb (dVC (dCO dZ)) dNil)))
def zbk_db:=(qAb zDJW3 (qAb (qBh .node) (qAb (dRow .u8 5) dNil)))
def zbk_cs (self:qG9→(List Eng.Node)→Int→Option (qG9 × Int)):CS:=mkC zbk_da zbk_db (fun x y=>self (⟨y.1.1,y.2.2.1⟩:qG9) y.2.1 x.2.2.1) (fun x y r=>.c (.o (.vI r.2))) fun x y r=>[.cells 80 [.opt r.1.addr 0 0,.own 3],.view .node y.2.1,.dead,.row .u8 5 r.1.buf]
def zbk_ws (self:qG9→(List Eng.Node)→Int→Option (qG9 × Int)):CQ:=qBk [(0,some 0,none),(0,some 1,some (.u8,5)),(1,none,some (.node,34))] (qB5 [true,false,true] (zbk_cs self))
def zbk_b2:IQ:=(.join [] [0,1,2,7,8,26,27] (.seq (.seq (rg 36 [oP 34 (.faddr 0 t7),oP 35 (.load none t34),oP 36 (.bi .eql t35 (vI 7))]) (.cond t36 (.seq (rg 43 [oM 37 t0,oM 38 t1,oM 39 t2,oP 40 (.iaddr 6 t38 t39),oP 41 (.faddr 1 t40),oP 42 (.load none t41),oP 43 (.call 51 [t37,t42])]) (rg 45 [oM 44 t0,oP 45 (.call 52 [t44,(vC 58)])])) .skip)) (rg 2 [oM 46 t0,oM 47 t1,oM 48 t2,oP 49 (.call 35 [t46,t47,t48]),oM 2 t49])))
def zbk_b1:IQ:=(.loop [0,1,2,7,8,26,27] (.seq (rg 28 [oP 28 (.bi .lss t27 t26)]) (.seq (.cond t28 .skip (.cn [0,2,8] (.exit 1))) (.seq (.block 2 (.seq (rg 9 [oM 29 t27,oM 9 t29]) (.seq (.seq (rg 31 [oM 30 t9,oP 31 (.bi .gtr t30 (vI 0))]) (.cond t31 (rg 33 [oM 32 t0,oP 33 (.call 52 [t32,(vC 44)])]) .skip)) (.cn [0,1,2,7,8,26,27] (.sub 2 zbk_b2))))) (rg 27 [oP 50 (.bi .add t27 (vI 1)),oM 27 t50])))))
def zbk_b0:IQ:=(.join [] [0,2] (.seq (rg 24 [oM 21 t0,oM 22 t8,oP 23 (.index t22 (vI 0)),oP 24 (.call 52 [t21,t23])]) (.seq (.seq (rg 27 [oP 25 (.faddr 5 t7),oP 26 (.load none t25),oP 27 (.mv (vI 0))]) (.block 1 (.cn [0,1,2,7,8,26,27] (.sub 1 zbk_b1)))) (rg 54 [oM 51 t0,oM 52 t8,oP 53 (.index t52 (vI 1)),oP 54 (.call 52 [t51,t53])]))))
def zbk_q:IQ:=(.seq (rg 6 [oP 6 (.mv (vI 0))]) (.seq (rg 0 [oM 10 t1,oM 11 t2,oP 12 (.iaddr 6 t10 t11),oP 13 (.load (some 6) t12),oP 7 (.alloc 34 [.int .i64 0,.string ⟨#[]⟩,.string ⟨#[]⟩,.bool false,.int .i64 0,.int .i64 0]),oN (.store 6 t7 t13)]) (.seq (rg 2 [oM 14 t2,oP 15 (.bi .add t14 (vI 1)),oM 2 t15]) (.seq (.seq (rg 17 [oP 16 (.faddr 0 t7),oP 17 (.load none t16)]) (.block 0 (.seq (rg 55 [oP 56 (.bi .eql t17 (vI 1)),oM 55 t56]) (.cond t55 (rg 58 [oM 57 t0,oP 58 (.call 50 [t57,(.v (.string ⟨#[110,117,108,108]⟩))])]) (.seq (rg 59 [oP 60 (.bi .eql t17 (vI 2)),oM 59 t60]) (.cond t59 (rg 62 [oM 61 t0,oP 62 (.call 50 [t61,(.v (.string ⟨#[102,97,108,115,101]⟩))])]) (.seq (rg 63 [oP 64 (.bi .eql t17 (vI 3)),oM 63 t64]) (.cond t63 (rg 66 [oM 65 t0,oP 66 (.call 50 [t65,(.v (.string ⟨#[116,114,117,101]⟩))])]) (.seq (rg 67 [oP 68 (.bi .eql t17 (vI 4)),oM 67 t68]) (.cond t67 (rg 72 [oM 69 t0,oP 70 (.faddr 2 t7),oP 71 (.load none t70),oP 72 (.call 50 [t69,t71])]) (.seq (rg 73 [oP 74 (.bi .eql t17 (vI 5)),oM 73 t74]) (.cond t73 (rg 78 [oM 75 t0,oP 76 (.faddr 2 t7),oP 77 (.load none t76),oP 78 (.call 51 [t75,t77])]) (.seq (rg 8 [oP 8 (.mv (.v (.string ⟨#[91,93]⟩)))]) (.seq (.seq (rg 20 [oP 18 (.faddr 0 t7),oP 19 (.load none t18),oP 20 (.bi .eql t19 (vI 7))]) (.cond t20 (rg 8 [oP 8 (.mv (.v (.string ⟨#[123,125]⟩)))]) .skip)) (.cn [0,1,2,7,8] (.sub 0 zbk_b0)))))))))))))))) (.seq (rg 6 [oM 79 t2,oM 6 t79]) (.canon [(2000000,some 0,.u8,0)] [6] .ret))))))
theorem zbk_chk:chk Tryd.prog 35 []=some (zbk_q.erase,[.tmp 6],80):=by kernel_rfl
def zbk_p2 (self:qG9→(List Eng.Node)→Int→Option (qG9 × Int)) (at_:Int) (b_addr:Bool) (v:List Eng.Node) (qHk:Int) (b_buf:List Int):Option (Int × Bool × (List Int)) :=
 bif decide (qHk=(7:Int)) then (
  gd (0≤at_∧at_<v.length) <|
  gd ((Int.toNat at_)<v.length) <|
  gd ((Int.toNat at_)<v.length) <|
  (zap_s (⟨b_addr,b_buf⟩:qG9) ((v.getD (Int.toNat at_) (ET.dft .node)).key)).bind fun r57 =>
  (zcf_s r57 (58:Int)).bind fun r58 =>
  (self r58.1 v at_).bind fun r59 =>
  some (r59.2,r59.1.addr,r59.1.buf))
 else (
  (self (⟨b_addr,b_buf⟩:qG9) v at_).bind fun r60 =>
  some (r60.2,r60.1.addr,r60.1.buf))
def qD7 (self:qG9→(List Eng.Node)→Int→Option (qG9 × Int)) (at_ x26_ x27_:Int) (b_addr:Bool) (v:List Eng.Node) (qHk:Int) (b_buf:List Int):Option ((Int × Int × Bool × (List Int)) ⊕ (Int × Bool × (List Int))) :=
 bif decide (x27_<x26_) then (
  bif decide ((0:Int)<x27_) then (
   (zcf_s (⟨b_addr,b_buf⟩:qG9) (44:Int)).bind fun r56 =>
   (zbk_p2 self at_ r56.1.addr v qHk r56.1.buf).bind fun o61 =>
   gd (qAj (x27_+(1:Int))) <|
   some (.inl (o61.1,(x27_+(1:Int)),o61.2.1,o61.2.2)))
  else (
   (zbk_p2 self at_ b_addr v qHk b_buf).bind fun o62 =>
   gd (qAj (x27_+(1:Int))) <|
   some (.inl (o62.1,(x27_+(1:Int)),o62.2.1,o62.2.2))))
 else (
  some (.inr (at_,b_addr,b_buf)))
def zbk_p1 (self:qG9→(List Eng.Node)→Int→Option (qG9 × Int)) (at_ x26_ x27_:Int) (b_addr:Bool) (v:List Eng.Node) (qHk:Int) (b_buf:List Int):Option (Int × Bool × (List Int)) :=
 qBm (fun x:(Int × Int × Bool × (List Int))=>qD7 self x.1 x26_ x.2.1 x.2.2.1 v qHk x.2.2.2) (at_,x27_,b_addr,b_buf)
def zbk_p0 (self:qG9→(List Eng.Node)→Int→Option (qG9 × Int)) (at_:Int) (signs:BA) (b_addr:Bool) (v:List Eng.Node) (b_buf:List Int) (qHk qHl:Int):Option (Int × Bool × (List Int)) :=
 gd (0≤(0:Int)∧(0:Int)<signs.size) <|
 (zcf_s (⟨b_addr,b_buf⟩:qG9) (bAt signs (0:Int))).bind fun r55 =>
 (zbk_p1 self at_ qHl (0:Int) r55.1.addr v qHk r55.1.buf).bind fun o63 =>
 gd (0≤(1:Int)∧(1:Int)<signs.size) <|
 (zcf_s (⟨o63.2.1,o63.2.2⟩:qG9) (bAt signs (1:Int))).bind fun r64 =>
 some (o63.1,r64.1.addr,r64.1.buf)
def zbk_t (self:qG9→(List Eng.Node)→Int→Option (qG9 × Int)) (b:qG9) (v:(List Eng.Node)) (at_:Int):Option (qG9 × Int) :=
 gd (0≤at_∧at_<v.length) <|
 gd ((Int.toNat at_)<v.length) <|
 gd (qAj (at_+(1:Int))) <|
 bif decide (((v.getD (Int.toNat at_) (ET.dft .node)).kind)=(1:Int)) then (
  (zcg_s b (⟨#[110,117,108,108]⟩:BA)).bind fun r50 =>
  some (r50.1,(at_+(1:Int))))
 else (
  bif decide (((v.getD (Int.toNat at_) (ET.dft .node)).kind)=(2:Int)) then (
   (zcg_s b (⟨#[102,97,108,115,101]⟩:BA)).bind fun r51 =>
   some (r51.1,(at_+(1:Int))))
  else (
   bif decide (((v.getD (Int.toNat at_) (ET.dft .node)).kind)=(3:Int)) then (
    (zcg_s b (⟨#[116,114,117,101]⟩:BA)).bind fun r52 =>
    some (r52.1,(at_+(1:Int))))
   else (
    bif decide (((v.getD (Int.toNat at_) (ET.dft .node)).kind)=(4:Int)) then (
     (zcg_s b ((v.getD (Int.toNat at_) (ET.dft .node)).text)).bind fun r53 =>
     some (r53.1,(at_+(1:Int))))
    else (
     bif decide (((v.getD (Int.toNat at_) (ET.dft .node)).kind)=(5:Int)) then (
      (zap_s b ((v.getD (Int.toNat at_) (ET.dft .node)).text)).bind fun r54 =>
      some (r54,(at_+(1:Int))))
     else (
      bif decide (((v.getD (Int.toNat at_) (ET.dft .node)).kind)=(7:Int)) then (
       (zbk_p0 self (at_+(1:Int)) (⟨#[123,125]⟩:BA) b.addr v b.buf ((v.getD (Int.toNat at_) (ET.dft .node)).kind) ((v.getD (Int.toNat at_) (ET.dft .node)).kids)).bind fun o65 =>
       some ((⟨o65.2.1,o65.2.2⟩:qG9),o65.1))
      else (
       (zbk_p0 self (at_+(1:Int)) (⟨#[91,93]⟩:BA) b.addr v b.buf ((v.getD (Int.toNat at_) (ET.dft .node)).kind) ((v.getD (Int.toNat at_) (ET.dft .node)).kids)).bind fun o66 =>
       some ((⟨o66.2.1,o66.2.2⟩:qG9),o66.1)))))))
def zbk_G (self:qG9→(List Eng.Node)→Int→Option (qG9 × Int)):Nat→Option CQ:=tblQ [(50,zcg_w),(51,zap_w),(52,zcf_w),(35,zbk_ws self)]
theorem zbk_Gok (self:qG9→(List Eng.Node)→Int→Option (qG9 × Int)) (hself:qAe Tryd.prog 35 (zbk_ws self)):∀f C,(zbk_G self) f=some C→qAe Tryd.prog f C:=qAi ⟨zcg_ok,zap_ok,zcf_ok,hself,tV⟩
def zDJW2:=(dCells 34 (qAb dZ (qAb dS (qAb dS (qAb dB (qAb dZ (qAb dZ dNil)))))))
def zbk_d2:=(dQS (qAb (dSO 0 (dH 0 0)) (qAb (dSO 1 (dO 1)) (qAb (dSO 2 dZ) (qAb (dSO 7 (dH 3 0)) (qAb (dSO 8 dS) (qAb (dSO 26 dZ) (qAb (dSO 27 dZ) dNil))))))) (qAb (dCells 80 (qAb (dP 0 0) (qAb (dO 4) dNil))) (qAb (qBh .node) (qAb dDead (qAb zDJW2 (qAb (dRow .u8 5) dNil))))))
def zbk_l2 (self:qG9→(List Eng.Node)→Int→Option (qG9 × Int)):SubQ:=mkL zbk_d2 (fun x=>zbk_p2 self x.1.2.2.1 x.2.1.1 x.2.2.1 x.2.2.2.2.1.1 x.2.2.2.2.2.1) fun x r R kn kx kr=>kn ⟨[sL 0 (.hd 0 0),sL 1 (.own 1),sL 2 (.vI r.1),sL 7 (.hd 3 0),sL 8 (.vS x.1.2.2.2.2.1),sL 26 (.vI x.1.2.2.2.2.2.1),sL 27 (.vI x.1.2.2.2.2.2.2.1)],[],[.cells 80 [.opt r.2.1 0 0,.own 4],.view .node x.2.2.1,.dead,.cells 34 [.vI x.2.2.2.2.1.1,.vS x.2.2.2.2.1.2.1,.vS x.2.2.2.2.1.2.2.1,.vB x.2.2.2.2.1.2.2.2.1,.vI x.2.2.2.2.1.2.2.2.2.1,.vI x.2.2.2.2.1.2.2.2.2.2.1],.row .u8 5 r.2.2]⟩
def zbk_d1:=(dQS (qAb (dSO 0 (dH 0 0)) (qAb (dSO 1 (dO 1)) (qAb (dSO 2 dZ) (qAb (dSO 7 (dH 3 0)) (qAb (dSO 8 dS) (qAb (dSO 26 dZ) (qAb (dSO 27 dZ) dNil))))))) (qAb (dCells 80 (qAb (dP 0 0) (qAb (dO 4) dNil))) (qAb (qBh .node) (qAb dDead (qAb zDJW2 (qAb (dRow .u8 5) dNil))))))
def zbk_l1 (self:qG9→(List Eng.Node)→Int→Option (qG9 × Int)):SubQ:=mkL zbk_d1 (fun x=>zbk_p1 self x.1.2.2.1 x.1.2.2.2.2.2.1 x.1.2.2.2.2.2.2.1 x.2.1.1 x.2.2.1 x.2.2.2.2.1.1 x.2.2.2.2.2.1) fun x r R kn kx kr=>kx 1 ⟨[sL 0 (.hd 0 0),sL 2 (.vI r.1),sL 8 (.vS x.1.2.2.2.2.1)],[],[.cells 80 [.opt r.2.1 0 0,.own 3],.view .node x.2.2.1,.dead,.row .u8 5 r.2.2]⟩
def zbk_d0:=(dQS (qAb (dSO 0 (dH 0 0)) (qAb (dSO 1 (dO 1)) (qAb (dSO 2 dZ) (qAb (dSO 7 (dH 3 0)) (qAb (dSO 8 dS) dNil))))) (qAb zDJW3 (qAb (qBh .node) (qAb (dRow .u8 5) (qAb zDJW2 dNil)))))
def zbk_l0 (self:qG9→(List Eng.Node)→Int→Option (qG9 × Int)):SubQ:=mkL zbk_d0 (fun x=>zbk_p0 self x.1.2.2.1 x.1.2.2.2.2.1 x.2.1.1 x.2.2.1 x.2.2.2.1 x.2.2.2.2.1.1 x.2.2.2.2.1.2.2.2.2.2.1) fun x r R kn kx kr=>kn ⟨[sL 0 (.hd 0 0),sL 2 (.vI r.1)],[],[.cells 80 [.opt r.2.1 0 0,.own 3],.view .node x.2.2.1,.dead,.row .u8 5 r.2.2]⟩
def zbk_L (self:qG9→(List Eng.Node)→Int→Option (qG9 × Int)):Nat→SubQ:=tblL [(2,zbk_l2 self),(1,zbk_l1 self),(0,zbk_l0 self)]
theorem zbk_sub2 (self:qG9→(List Eng.Node)→Int→Option (qG9 × Int)):qBu (zbk_L self) (zbk_G self) 3 28 80 2 zbk_b2:=qAw (show (zbk_L self) 2=(zbk_l2 self) from by kernel_rfl) fun x R kn kx kr=>by
 simp only [zbk_p2,-eq_self,qAc,qAf,obA,obS,slL,slR,qAd];kernel_rfl
theorem zbk_sub1 (self:qG9→(List Eng.Node)→Int→Option (qG9 × Int)):qBu (zbk_L self) (zbk_G self) 3 28 80 1 zbk_b1:=qAw (show (zbk_L self) 1=(zbk_l1 self) from by kernel_rfl) fun x R kn kx kr=>qAv (step:=fun y=>qD7 self y.1 x.1.2.2.2.2.2.1 y.2.1 y.2.2.1 x.2.2.1 x.2.2.2.2.1.1 y.2.2.2) (enc:=fun (y:Int × Int × Bool × (List Int))=>zbk_d1.e ((x.1.1,x.1.2.1,y.1,x.1.2.2.2.1,x.1.2.2.2.2.1,x.1.2.2.2.2.2.1,y.2.1,x.1.2.2.2.2.2.2.2),((y.2.2.1,x.2.1.2),x.2.2.1,x.2.2.2.1,x.2.2.2.2.1,y.2.2.2,x.2.2.2.2.2.2))) (fun y=>by kernel_rfl) (fun y ki=>by simp only [qD7,-eq_self,qAc,qAf,obA,obS,slL,slR,qAd]; kernel_rfl) (x.1.2.2.1,x.1.2.2.2.2.2.2.1,x.2.1.1,x.2.2.2.2.2.1)
theorem zbk_sub0 (self:qG9→(List Eng.Node)→Int→Option (qG9 × Int)):qBu (zbk_L self) (zbk_G self) 3 28 80 0 zbk_b0:=qAw (show (zbk_L self) 0=(zbk_l0 self) from by kernel_rfl) fun x R kn kx kr=>by
 simp only [zbk_p0,-eq_self,qAc,qAf,obA,obS,slL,slR,qAd];kernel_rfl
theorem zbk_subs (self:qG9→(List Eng.Node)→Int→Option (qG9 × Int)):qAo (zbk_L self) (zbk_G self) 3 28 80 zbk_q:=qAk (show qAr (zbk_L self) (zbk_G self) 3 28 80 [(0,zbk_b0),(1,zbk_b1),(2,zbk_b2)] from ⟨(zbk_sub0 self),(zbk_sub1 self),(zbk_sub2 self),tV⟩)
theorem zbk_val_t (self:qG9→(List Eng.Node)→Int→Option (qG9 × Int)) (hself:qAe Tryd.prog 35 (zbk_ws self)):qAl Tryd.prog 35 (zbk_cs (zbk_t self)):=qAn zbk_chk 28 (zbk_Gok self hself) 3 (fun x=>Nat.le_of_ble_eq_true rfl) (fun y=>rfl) (zbk_subs self) fun x y=>by
 simp only [zbk_t,-eq_self,qAc,qAf,obA,obS,slL,slR,qAd];kernel_rfl
def zbk_n:Nat→qG9→(List Eng.Node)→Int→Option (qG9 × Int)
 | 0=>fun _ _ _=>none
 | n+1=>zbk_t (zbk_n n)
def zbk_s (b:qG9) (v:(List Eng.Node)) (at_:Int):Option (qG9 × Int):=evt fun n=>zbk_n n b v at_
theorem zbk_valn:∀n,qAl Tryd.prog 35 (zbk_cs (zbk_n n))
 | 0=>qAl.zero fun args hp R k=>by
  show ((Dec.d zbk_da args).bind fun x=>(Dec.d zbk_db hp).bind fun y=>none)=none;cases Dec.d zbk_da args with
  | none=>rfl
  | some x=>cases Dec.d zbk_db hp <;> rfl
 | n+1=>zbk_val_t (zbk_n n) (qAs (zbk_valn n))
theorem zbk_val:qAl Tryd.prog 35 (zbk_cs zbk_s):=qAl.evt zbk_valn (fun args hp R k=>by
  show ((Dec.d zbk_da args).bind fun x=>(Dec.d zbk_db hp).bind fun y=>_)=(((Dec.d zbk_da args).bind fun x=>(Dec.d zbk_db hp).bind fun y=>_):Option (SV × List SB)).bind _;cases Dec.d zbk_da args with
  | none=>rfl
  | some x =>
   cases Dec.d zbk_db hp with
   | none=>rfl
   | some y=>simp only [obS,Option.bind_assoc]) fun args hp v hp' h=>by
  obtain ⟨x,h1,h2⟩:=Option.bind_eq_some_iff.1 h;obtain ⟨y,h3,h4⟩:=Option.bind_eq_some_iff.1 h2;obtain ⟨r,h5,h6⟩:=Option.bind_eq_some_iff.1 h4;obtain ⟨n,h7⟩:=evt_some h5;refine ⟨n,?_⟩;show ((Dec.d zbk_da args).bind fun x=>(Dec.d zbk_db hp).bind fun y=>_)=_;rw [h1];simp only [obS];rw [h3];simp only [obS];exact (congrArg (fun z=>Option.bind z _) h7).trans h6
def zbk_w:CQ:=zbk_ws zbk_s
theorem zbk_ok:qAe Tryd.prog 35 zbk_w:=qAs zbk_val
def zcd_q:IQ:=(.seq (rg 2 [oP 2 (.mv (vI 0))]) (.seq (rg 2 (rF 3 t0 1++[oP 7 (.len t6),oM 2 t7])) (.canon [(2000000,some 0,.u8,0)] [2] .ret)))
theorem zcd_chk:chk Tryd.prog 36 []=some (zcd_q.erase,[.tmp 2],8):=by kernel_rfl
def zcd_s (b:qG9):Option Int :=
 some (b.buf.length:Int)
def zcd_G:Nat→Option CQ:=tblQ []
theorem zcd_Gok:∀f C,zcd_G f=some C→qAe Tryd.prog f C:=fun f C h=>by cases h
def zcd_L:Nat→SubQ:=tblL []
theorem zcd_subs:qAo zcd_L zcd_G 2 3 8 zcd_q:=qAk (show qAr zcd_L zcd_G 2 3 8 [] from tV)
def zcd_da:=(qAb (dVC (dCO (dH 0 0))) dNil)
def zcd_db:=(qAb zDJW1 (qAb (qBh .u8) dNil))
def zcd_c:CS:=mkC zcd_da zcd_db (fun x y=>zcd_s (⟨y.1.1,y.2.1⟩:qG9)) (fun x y r=>.c (.o (.vI r))) fun x y r=>[.cells 80 [.opt y.1.1 0 0,.own 1],.view .u8 y.2.1]
theorem zcd_val:qAl Tryd.prog 36 zcd_c:=qAn zcd_chk 3 zcd_Gok 2 (fun x=>Nat.le_of_ble_eq_true rfl) (fun y=>rfl) zcd_subs fun x y=>by
 simp only [zcd_s,-eq_self,qAc,qAf,obA,obS,slL,slR,qAd];kernel_rfl
def zcd_w:CQ:=qBk [(0,some 0,none),(0,some 1,some (.u8,5))] (qB5 [true,false] zcd_c)
theorem zcd_ok:qAe Tryd.prog 36 zcd_w:=qAs zcd_val
def zce_q:IQ:=(.seq (rg 2 [oP 2 (.mv (.v (.string ⟨#[]⟩)))]) (.seq (.reg 2 (some [0,1,2,3,4,5,6,7,8,9,10,11]) (rF 3 t0 1++[oP 7 (.ext .sdata [t6])]++rF 8 t0 1++[oP 12 (.len t11),oP 13 (.ext (.ustr 5) [t7,t12]),oM 2 t13])) (.canon [(2000000,some 0,.u8,0)] [2] .ret)))
theorem zce_chk:chk Tryd.prog 37 []=some (zce_q.erase,[.tmp 2],14):=by kernel_rfl
def zce_s (b:qG9):Option (qG9 × BA) :=
 gd (0<b.buf.length) <|
 gd ((b.buf.length:Int)=b.buf.length∧0<b.buf.length∧∀x∈b.buf,0≤x∧x<256) <|
 some ((⟨b.addr,[]⟩:qG9),(qA4 b.buf))
def zce_G:Nat→Option CQ:=tblQ []
theorem zce_Gok:∀f C,zce_G f=some C→qAe Tryd.prog f C:=fun f C h=>by cases h
def zce_L:Nat→SubQ:=tblL []
theorem zce_subs:qAo zce_L zce_G 2 3 14 zce_q:=qAk (show qAr zce_L zce_G 2 3 14 [] from tV)
def zce_da:=(qAb (dVC (dCO (dH 0 0))) dNil)
def zce_db:=(qAb zDJW1 (qAb (dRow .u8 5) dNil))
def zce_c:CS:=mkC zce_da zce_db (fun x y=>zce_s (⟨y.1.1,y.2.1⟩:qG9)) (fun x y r=>.c (.o (.vS r.2))) fun x y r=>[.cells 80 [.opt r.1.addr 0 0,.own 1],.dead]
theorem zce_val:qAl Tryd.prog 37 zce_c:=qAn zce_chk 3 zce_Gok 2 (fun x=>Nat.le_of_ble_eq_true rfl) (fun y=>rfl) zce_subs fun x y=>by
 simp only [zce_s,-eq_self,qAc,qAf,obA,obS,slL,slR,qAd];kernel_rfl
def zce_w:CQ:=qBk [(0,some 0,none),(0,some 1,some (.u8,5))] (qB5 [true,true] zce_c)
theorem zce_ok:qAe Tryd.prog 37 zce_w:=qAs zce_val
def zal_q:IQ:=(.seq (rg 3 [oP 2 (.mv (.v (.string ⟨#[]⟩))),oP 3 (.mv (vI 0))]) (.seq (.seq (rg 7 [oM 5 t0,oP 6 (.call 34 [t5]),oP 7 (.un .not t6)]) (.cond t7 (.seq (rg 3 [oP 2 (.mv (.v (.string ⟨#[]⟩))),oP 3 (.mv (vI 31))]) (.cn [2,3] .ret)) .skip)) (.seq (rg 4 [oP 4 (.alloc 80 [.pointer none,.slice none 0 0])]) (.seq (rg 9 [oM 8 t0,oP 9 (.call 35 [t4,t8,(vI 0)])]) (.seq (.seq (rg 11 [oP 10 (.call 36 [t4]),oP 11 (.bi .gtr t10 (vI 262144))]) (.cond t11 (.seq (rg 3 [oP 2 (.mv (.v (.string ⟨#[]⟩))),oP 3 (.mv (vI 10))]) (.cn [2,3] .ret)) .skip)) (.seq (rg 3 [oP 12 (.call 37 [t4]),oM 2 t12,oP 3 (.mv (vI 0))]) (.cn [2,3] .ret)))))))
theorem zal_chk:chk Tryd.prog 18 []=some (zal_q.erase,[.tmp 2,.tmp 3],13):=by kernel_rfl
def zal_s (v:(List Eng.Node)):Option (BA × Int) :=
 (zam_s v).bind fun r1 =>
 bif (!r1) then (
  some ((⟨#[]⟩:BA),(31:Int)))
 else (
  (zbk_s (⟨false,[]⟩:qG9) v (0:Int)).bind fun r2 =>
  (zcd_s r2.1).bind fun r3 =>
  bif decide ((262144:Int)<r3) then (
   some ((⟨#[]⟩:BA),(10:Int)))
  else (
   (zce_s r2.1).bind fun r4 =>
   some (r4.2,(0:Int))))
def zal_G:Nat→Option CQ:=tblQ [(34,zam_w),(35,zbk_w),(36,zcd_w),(37,zce_w)]
theorem zal_Gok:∀f C,zal_G f=some C→qAe Tryd.prog f C:=qAi ⟨zam_ok,zbk_ok,zcd_ok,zce_ok,tV⟩
def zal_L:Nat→SubQ:=tblL []
theorem zal_subs:qAo zal_L zal_G 1 5 13 zal_q:=qAk (show qAr zal_L zal_G 1 5 13 [] from tV)
def zal_da:=(qAb (dVC (dCO (dO 0))) dNil)
def zal_db:=(qAb (qBh .node) dNil)
def zal_c:CS:=mkC zal_da zal_db (fun x y=>zal_s y.1) (fun x y r=>.tup [.o (.vS r.1),.o (.vI r.2)]) fun x y r=>[.view .node y.1]
theorem zal_val:qAl Tryd.prog 18 zal_c:=qAn zal_chk 5 zal_Gok 1 (fun x=>Nat.le_of_ble_eq_true rfl) (fun y=>rfl) zal_subs fun x y=>by
 simp only [zal_s,-eq_self,qAc,qAf,obA,obS,slL,slR,qAd];kernel_rfl
def zal_w:CQ:=qBk [(0,none,some (.node,34))] (qCu [false] zal_c)
theorem zal_ok:qAe Tryd.prog 18 zal_w:=qCj zal_val
end
end Go.Proofs.YtnifdcmeffnpaaaDoor
