/-
  Functions as the engine reads them (printed by gen.py).
-/
import Derived.Test.YtnifdcmeffnpaaaDoorEngO
import Derived.Test.YtnifdcmeffnpaaaDoorProg
namespace Go.Proofs.YtnifdcmeffnpaaaDoor
open Go.Eng
set_option linter.unusedVariables false
set_option linter.unusedSimpArgs false
set_option maxRecDepth 100000
noncomputable section
structure decimal_number where
 minus:Bool
 whole:BA
 digits:BA
 point:Int
 plain:Bool
 down:Bool
 exp_:BA
def zae_q:IQ:=(.seq (rg 4 [oP 4 (.mv vF)]) (.seq (rg 4 [oM 5 t0,oP 6 (.lenS t5),oM 7 t1,oP 8 (.lenS t7),oP 9 (.bi .geq t6 t8),oM 10 t9,oF 11 (.mv t0) 10,oF 12 (.mv t1) 10,oF 13 (.lenS t12) 10,oF 14 (.sub none t11 none (some t13)) 10,oF 15 (.mv t1) 10,oF 16 (.bi .eql t14 t15) 10,oP 17 (.pick t10 t16 vF),oM 4 t17]) (.cn [4] .ret)))
theorem zae_chk:chk Tryd.prog 105 []=some (zae_q.erase,[.tmp 4],18):=by kernel_rfl
def zae_s (s prefix_:BA):Option Bool :=
 gd ((decide ((prefix_.size:Int)≤(s.size:Int)))=true→0≤(0:Int)∧(0:Int)≤(prefix_.size:Int)∧(prefix_.size:Int)≤s.size) <|
 some ((decide ((prefix_.size:Int)≤(s.size:Int))) && (decide ((s.extract 0 (Int.toNat (prefix_.size:Int)))=prefix_)))
def zae_G:Nat→Option CQ:=tblQ []
theorem zae_Gok:∀f C,zae_G f=some C→qAe Tryd.prog f C:=fun f C h=>by cases h
def zae_L:Nat→SubQ:=tblL []
theorem zae_subs:qAo zae_L zae_G 0 5 18 zae_q:=qAk (show qAp zae_L zae_G 0 5 18 [] from tV)
def zae_da:=(qAb (dVC (dCO dS)) (qAb (dVC (dCO dS)) dNil))
def zae_db:=(dNil:Dec Unit (List SB))
def zae_c:CS:=mkC zae_da zae_db (fun x y=>zae_s x.1 x.2.1) (fun x y r=>.c (.o (.vB r))) fun x y r=>[]
theorem zae_val:qAl Tryd.prog 105 zae_c:=qAm zae_chk 5 zae_Gok 0 (fun x=>Nat.le_of_ble_eq_true rfl) (fun y=>rfl) zae_subs fun x y=>by
 simp only [zae_s,-eq_self,qAd,qAg,obA,obS,slL,slR,qAc];kernel_rfl
def zae_w:CQ:=qC3 [] zae_c
theorem zae_ok:qAe Tryd.prog 105 zae_w:=qA2 zae_val
def zad_q:IQ:=(.seq (rg 5 [oP 4 (.mv (.v (.string ⟨#[]⟩))),oP 5 (.mv vF)]) (.seq (.seq (rg 9 [oM 6 t0,oM 7 t1,oP 8 (.call 105 [t6,t7]),oP 9 (.un .not t8)]) (.cond t9 (.seq (rg 5 [oM 10 t0,oM 4 t10,oP 5 (.mv vF)]) (.cn [4,5] .ret)) .skip)) (.seq (rg 5 [oM 11 t0,oM 12 t1,oP 13 (.lenS t12),oP 14 (.sub none t11 (some t13) none),oM 4 t14,oP 5 (.mv vT)]) (.cn [4,5] .ret))))
theorem zad_chk:chk Tryd.prog 94 []=some (zad_q.erase,[.tmp 4,.tmp 5],15):=by kernel_rfl
def zad_s (s prefix_:BA):Option (BA × Bool) :=
 (zae_s s prefix_).bind fun r1 =>
 bif (!r1) then (
  some (s,false))
 else (
  gd (0≤(prefix_.size:Int)∧(prefix_.size:Int)≤(s.size:Int)∧(s.size:Int)≤s.size) <|
  some ((s.extract (Int.toNat (prefix_.size:Int)) s.size),true))
def zad_G:Nat→Option CQ:=tblQ [(105,zae_w)]
theorem zad_Gok:∀f C,zad_G f=some C→qAe Tryd.prog f C:=qAi ⟨zae_ok,tV⟩
def zad_L:Nat→SubQ:=tblL []
theorem zad_subs:qAo zad_L zad_G 0 6 15 zad_q:=qAk (show qAp zad_L zad_G 0 6 15 [] from tV)
def zad_da:=(qAb (dVC (dCO dS)) (qAb (dVC (dCO dS)) dNil))
def zad_db:=(dNil:Dec Unit (List SB))
def zad_c:CS:=mkC zad_da zad_db (fun x y=>zad_s x.1 x.2.1) (fun x y r=>.tup [.o (.vS r.1),.o (.vB r.2)]) fun x y r=>[]
theorem zad_val:qAl Tryd.prog 94 zad_c:=qAm zad_chk 6 zad_Gok 0 (fun x=>Nat.le_of_ble_eq_true rfl) (fun y=>rfl) zad_subs fun x y=>by
 simp only [zad_s,-eq_self,qAd,qAg,obA,obS,slL,slR,qAc];kernel_rfl
def zad_w:CQ:=qC3 [] zad_c
theorem zad_ok:qAe Tryd.prog 94 zad_w:=qA2 zad_val
def zby_q:IQ:=(.seq (rg 5 [oP 4 (.mv (.v (.string ⟨#[]⟩))),oP 5 (.mv vF)]) (.seq (rg 5 [oM 6 t0,oM 7 t1,oP 8 (.call 94 [t6,t7]),oP 9 (.extract t8 0),oP 10 (.extract t8 1),oM 4 t9,oM 5 t10]) (.cn [4,5] .ret)))
theorem zby_chk:chk Tryd.prog 82 []=some (zby_q.erase,[.tmp 4,.tmp 5],11):=by kernel_rfl
def zby_s (s prefix_:BA):Option (BA × Bool) :=
 (zad_s s prefix_).bind fun r1 =>
 some (r1.1,r1.2)
def zby_G:Nat→Option CQ:=tblQ [(94,zad_w)]
theorem zby_Gok:∀f C,zby_G f=some C→qAe Tryd.prog f C:=qAi ⟨zad_ok,tV⟩
def zby_L:Nat→SubQ:=tblL []
theorem zby_subs:qAo zby_L zby_G 0 6 11 zby_q:=qAk (show qAp zby_L zby_G 0 6 11 [] from tV)
def zby_da:=(qAb (dVC (dCO dS)) (qAb (dVC (dCO dS)) dNil))
def zby_db:=(dNil:Dec Unit (List SB))
def zby_c:CS:=mkC zby_da zby_db (fun x y=>zby_s x.1 x.2.1) (fun x y r=>.tup [.o (.vS r.1),.o (.vB r.2)]) fun x y r=>[]
theorem zby_val:qAl Tryd.prog 82 zby_c:=qAm zby_chk 6 zby_Gok 0 (fun x=>Nat.le_of_ble_eq_true rfl) (fun y=>rfl) zby_subs fun x y=>by
 simp only [zby_s,-eq_self,qAd,qAg,obA,obS,slL,slR,qAc];kernel_rfl
def zby_w:CQ:=qC3 [] zby_c
theorem zby_ok:qAe Tryd.prog 82 zby_w:=qA2 zby_val
def zac_b0:IQ:=(.loop [0,3] (.seq (.seq (rg 19 [oM 4 t3,oM 5 t0,oP 6 (.lenS t5),oP 7 (.bi .lss t4 t6),oM 8 t7,oF 9 (.mv t0) 8,oF 10 (.mv t3) 8,oF 11 (.index t9 t10) 8,oF 12 (.bi .geq t11 (vC 48)) 8,oP 13 (.pick t8 t12 vF),oM 14 t13,oF 15 (.mv t0) 14,oF 16 (.mv t3) 14,oF 17 (.index t15 t16) 14,oF 18 (.bi .leq t17 (vC 57)) 14,oP 19 (.pick t14 t18 vF)]) (.cond t19 .skip (.cn [3] (.exit 0)))) (.block 1 (rg 3 [oM 20 t3,oP 21 (.bi .add t20 (vI 1)),oM 3 t21]))))
def zac_q:IQ:=(.seq (rg 2 [oP 2 (.mv (vI 0))]) (.seq (rg 3 [oP 3 (.mv (vI 0))]) (.seq (.block 0 (.cn [0,3] (.sub 0 zac_b0))) (.seq (rg 2 [oM 22 t3,oM 2 t22]) (.cn [2] .ret)))))
theorem zac_chk:chk Tryd.prog 83 []=some (zac_q.erase,[.tmp 2],23):=by kernel_rfl
def zac_p0_step (s:BA) (n:Int):Option (Int ⊕ Int) :=
 gd ((decide (n<(s.size:Int)))=true→0≤n∧n<s.size) <|
 gd (((decide (n<(s.size:Int))) && (decide ((48:Int)≤(bAt s n))))=true→0≤n∧n<s.size) <|
 bif (((decide (n<(s.size:Int))) && (decide ((48:Int)≤(bAt s n)))) && (decide ((bAt s n)≤(57:Int)))) then (
  gd (qAj (n+(1:Int))) <|
  some (.inl (n+(1:Int))))
 else (
  some (.inr n))
def zac_p0 (s:BA) (n:Int):Option Int :=
 qBh (fun x:Int=>zac_p0_step s x) n
def zac_s (s:BA):Option Int :=
 (zac_p0 s (0:Int)).bind fun o1 =>
 some o1
def zac_G:Nat→Option CQ:=tblQ []
theorem zac_Gok:∀f C,zac_G f=some C→qAe Tryd.prog f C:=fun f C h=>by cases h
def zac_d0:=(dQS (qAb (dSO 0 dS) (qAb (dSO 3 dZ) dNil)) dNil)
def zac_l0:SubQ:=mkL zac_d0 (fun x=>zac_p0 x.1.1 x.1.2.1) fun x r R kn kx kr=>kx 0 ⟨[sL 3 (.vI r)],[],[]⟩
def zac_L:Nat→SubQ:=tblL [(0,zac_l0)]
theorem zac_sub0:qBr zac_L zac_G 0 4 23 0 zac_b0:=qAu (show zac_L 0=zac_l0 from by kernel_rfl) fun x R kn kx kr=>qAs (step:=fun y=>zac_p0_step x.1.1 y) (enc:=fun (y:Int)=>zac_d0.e ((x.1.1,y,x.1.2.2),x.2)) (fun y=>by kernel_rfl) (fun y ki=>by simp only [zac_p0_step,-eq_self,qAd,qAg,obA,obS,slL,slR,qAc]; kernel_rfl) x.1.2.1
theorem zac_subs:qAo zac_L zac_G 0 4 23 zac_q:=qAk (show qAp zac_L zac_G 0 4 23 [(0,zac_b0)] from ⟨zac_sub0,tV⟩)
def zac_da:=(qAb (dVC (dCO dS)) dNil)
def zac_db:=(dNil:Dec Unit (List SB))
def zac_c:CS:=mkC zac_da zac_db (fun x y=>zac_s x.1) (fun x y r=>.c (.o (.vI r))) fun x y r=>[]
theorem zac_val:qAl Tryd.prog 83 zac_c:=qAm zac_chk 4 zac_Gok 0 (fun x=>Nat.le_of_ble_eq_true rfl) (fun y=>rfl) zac_subs fun x y=>by
 simp only [zac_s,-eq_self,qAd,qAg,obA,obS,slL,slR,qAc];kernel_rfl
def zac_w:CQ:=qC3 [] zac_c
theorem zac_ok:qAe Tryd.prog 83 zac_w:=qA2 zac_val
def zcb_b0:IQ:=(.loop [0,1] (.seq (.seq (rg 13 [oM 5 t0,oP 6 (.lenS t5),oP 7 (.bi .gtr t6 (vI 0)),oM 8 t7,oF 9 (.mv t0) 8,oF 10 (.index t9 (vI 0)) 8,oF 11 (.mv t1) 8,oF 12 (.bi .eql t10 t11) 8,oP 13 (.pick t8 t12 vF)]) (.cond t13 .skip (.cn [0] (.exit 0)))) (.block 1 (rg 0 [oM 14 t0,oP 15 (.sub none t14 (some (vI 1)) none),oM 0 t15]))))
def zcb_q:IQ:=(.seq (rg 4 [oP 4 (.mv (.v (.string ⟨#[]⟩)))]) (.seq (.block 0 (.cn [0,1] (.sub 0 zcb_b0))) (.seq (rg 4 [oM 16 t0,oM 4 t16]) (.cn [4] .ret))))
theorem zcb_chk:chk Tryd.prog 95 []=some (zcb_q.erase,[.tmp 4],17):=by kernel_rfl
def zcb_p0_step (s:BA) (c:Int):Option (BA ⊕ BA) :=
 gd ((decide ((0:Int)<(s.size:Int)))=true→0≤(0:Int)∧(0:Int)<s.size) <|
 bif ((decide ((0:Int)<(s.size:Int))) && (decide ((bAt s (0:Int))=c))) then (
  gd (0≤(1:Int)∧(1:Int)≤(s.size:Int)∧(s.size:Int)≤s.size) <|
  some (.inl (s.extract 1 s.size)))
 else (
  some (.inr s))
def zcb_p0 (s:BA) (c:Int):Option BA :=
 qBh (fun x:BA=>zcb_p0_step x c) s
def zcb_s (s:BA) (c:Int):Option BA :=
 (zcb_p0 s c).bind fun o1 =>
 some o1
def zcb_G:Nat→Option CQ:=tblQ []
theorem zcb_Gok:∀f C,zcb_G f=some C→qAe Tryd.prog f C:=fun f C h=>by cases h
def zcb_d0:=(dQS (qAb (dSO 0 dS) (qAb (dSO 1 (dI .u8)) dNil)) dNil)
def zcb_l0:SubQ:=mkL zcb_d0 (fun x=>zcb_p0 x.1.1 x.1.2.1) fun x r R kn kx kr=>kx 0 ⟨[sL 0 (.vS r)],[],[]⟩
def zcb_L:Nat→SubQ:=tblL [(0,zcb_l0)]
theorem zcb_sub0:qBr zcb_L zcb_G 0 5 17 0 zcb_b0:=qAu (show zcb_L 0=zcb_l0 from by kernel_rfl) fun x R kn kx kr=>qAs (step:=fun y=>zcb_p0_step y x.1.2.1) (enc:=fun (y:BA)=>zcb_d0.e ((y,x.1.2),x.2)) (fun y=>by kernel_rfl) (fun y ki=>by simp only [zcb_p0_step,-eq_self,qAd,qAg,obA,obS,slL,slR,qAc]; kernel_rfl) x.1.1
theorem zcb_subs:qAo zcb_L zcb_G 0 5 17 zcb_q:=qAk (show qAp zcb_L zcb_G 0 5 17 [(0,zcb_b0)] from ⟨zcb_sub0,tV⟩)
def zcb_da:=(qAb (dVC (dCO dS)) (qAb (dVC (dCO (dI .u8))) dNil))
def zcb_db:=(dNil:Dec Unit (List SB))
def zcb_c:CS:=mkC zcb_da zcb_db (fun x y=>zcb_s x.1 x.2.1) (fun x y r=>.c (.o (.vS r))) fun x y r=>[]
theorem zcb_val:qAl Tryd.prog 95 zcb_c:=qAm zcb_chk 5 zcb_Gok 0 (fun x=>Nat.le_of_ble_eq_true rfl) (fun y=>rfl) zcb_subs fun x y=>by
 simp only [zcb_s,-eq_self,qAd,qAg,obA,obS,slL,slR,qAc];kernel_rfl
def zcb_w:CQ:=qC3 [] zcb_c
theorem zcb_ok:qAe Tryd.prog 95 zcb_w:=qA2 zcb_val
def zbz_q:IQ:=(.seq (rg 4 [oP 4 (.mv (.v (.string ⟨#[]⟩)))]) (.seq (.seq (rg 12 [oM 7 t0,oP 8 (.bi .eql t7 (.v (.string ⟨#[]⟩))),oM 9 t8,oE 10 (.mv t1) 9,oE 11 (.bi .eql t10 (.v (.string ⟨#[]⟩))) 9,oP 12 (.pick t9 vT t11)]) (.cond t12 (.seq (rg 4 [oM 13 t0,oM 4 t13]) (.cn [4] .ret)) .skip)) (.seq (.seq (rg 21 [oM 14 t1,oP 15 (.lenS t14),oP 16 (.bi .eql t15 (vI 1)),oM 17 t16,oF 18 (.mv t1) 17,oF 19 (.index t18 (vI 0)) 17,oF 20 (.bi .lss t19 (vC 128)) 17,oP 21 (.pick t17 t20 vF)]) (.cond t21 (.seq (rg 4 [oM 22 t0,oM 23 t1,oP 24 (.index t23 (vI 0)),oP 25 (.call 95 [t22,t24]),oM 4 t25]) (.cn [4] .ret)) .skip)) (.seq (.seq (rg 6 [oM 27 t1,oP 28 (.call 96 [t27]),oM 26 t28,oP 29 (.extract t26 0),oP 30 (.extract t26 1),oP 5 (.alloc 156 [.bool false,.bool false,.bool false,.bool false,.bool false,.bool false,.bool false,.bool false,.bool false,.bool false,.bool false,.bool false,.bool false,.bool false,.bool false,.bool false,.bool false,.bool false,.bool false,.bool false,.bool false,.bool false,.bool false,.bool false,.bool false,.bool false,.bool false,.bool false,.bool false,.bool false,.bool false,.bool false,.bool false,.bool false,.bool false,.bool false,.bool false,.bool false,.bool false,.bool false,.bool false,.bool false,.bool false,.bool false,.bool false,.bool false,.bool false,.bool false,.bool false,.bool false,.bool false,.bool false,.bool false,.bool false,.bool false,.bool false,.bool false,.bool false,.bool false,.bool false,.bool false,.bool false,.bool false,.bool false,.bool false,.bool false,.bool false,.bool false,.bool false,.bool false,.bool false,.bool false,.bool false,.bool false,.bool false,.bool false,.bool false,.bool false,.bool false,.bool false,.bool false,.bool false,.bool false,.bool false,.bool false,.bool false,.bool false,.bool false,.bool false,.bool false,.bool false,.bool false,.bool false,.bool false,.bool false,.bool false,.bool false,.bool false,.bool false,.bool false,.bool false,.bool false,.bool false,.bool false,.bool false,.bool false,.bool false,.bool false,.bool false,.bool false,.bool false,.bool false,.bool false,.bool false,.bool false,.bool false,.bool false,.bool false,.bool false,.bool false,.bool false,.bool false,.bool false,.bool false,.bool false,.bool false,.bool false,.bool false,.bool false,.bool false,.bool false,.bool false,.bool false,.bool false,.bool false,.bool false,.bool false,.bool false,.bool false,.bool false,.bool false,.bool false,.bool false,.bool false,.bool false,.bool false,.bool false,.bool false,.bool false,.bool false,.bool false,.bool false,.bool false,.bool false,.bool false,.bool false,.bool false,.bool false,.bool false,.bool false,.bool false,.bool false,.bool false,.bool false,.bool false,.bool false,.bool false,.bool false,.bool false,.bool false,.bool false,.bool false,.bool false,.bool false,.bool false,.bool false,.bool false,.bool false,.bool false,.bool false,.bool false,.bool false,.bool false,.bool false,.bool false,.bool false,.bool false,.bool false,.bool false,.bool false,.bool false,.bool false,.bool false,.bool false,.bool false,.bool false,.bool false,.bool false,.bool false,.bool false,.bool false,.bool false,.bool false,.bool false,.bool false,.bool false,.bool false,.bool false,.bool false,.bool false,.bool false,.bool false,.bool false,.bool false,.bool false,.bool false,.bool false,.bool false,.bool false,.bool false,.bool false,.bool false,.bool false,.bool false,.bool false,.bool false,.bool false,.bool false,.bool false,.bool false,.bool false,.bool false,.bool false,.bool false,.bool false,.bool false,.bool false,.bool false,.bool false,.bool false,.bool false,.bool false,.bool false,.bool false,.bool false,.bool false,.bool false,.bool false,.bool false,.bool false,.bool false,.bool false,.bool false,.bool false,.bool false,.bool false]),oN (.store 256 t5 t29),oM 6 t30]) (.seq (rg 31 [oM 31 t6]) (.cond t31 (.seq (rg 4 [oM 32 t0,oP 33 (.call 97 [t32,t5]),oM 4 t33]) (.cn [4] .ret)) .skip))) (.seq (rg 4 [oM 34 t0,oM 35 t1,oP 36 (.call 98 [t34,t35]),oM 4 t36]) (.cn [4] .ret))))))
theorem zbz_chk:chk Tryd.prog 84 []=some (zbz_q.erase,[.tmp 4],37):=by kernel_rfl
def zbz_s (s cutset:BA):Option BA :=
 bif ((decide (s=(⟨#[]⟩:BA))) || (decide (cutset=(⟨#[]⟩:BA)))) then (
  some s)
 else (
  gd ((decide ((cutset.size:Int)=(1:Int)))=true→0≤(0:Int)∧(0:Int)<cutset.size) <|
  bif ((decide ((cutset.size:Int)=(1:Int))) && (decide ((bAt cutset (0:Int))<(128:Int)))) then (
   gd (0≤(0:Int)∧(0:Int)<cutset.size) <|
   (zcb_s s (bAt cutset (0:Int))).bind fun r1 =>
   some r1)
  else (
   none))
def zbz_G:Nat→Option CQ:=tblQ [(95,zcb_w)]
theorem zbz_Gok:∀f C,zbz_G f=some C→qAe Tryd.prog f C:=qAi ⟨zcb_ok,tV⟩
def zbz_L:Nat→SubQ:=tblL []
theorem zbz_subs:qAo zbz_L zbz_G 0 7 37 zbz_q:=qAk (show qAp zbz_L zbz_G 0 7 37 [] from tV)
def zbz_da:=(qAb (dVC (dCO dS)) (qAb (dVC (dCO dS)) dNil))
def zbz_db:=(dNil:Dec Unit (List SB))
def zbz_c:CS:=mkC zbz_da zbz_db (fun x y=>zbz_s x.1 x.2.1) (fun x y r=>.c (.o (.vS r))) fun x y r=>[]
theorem zbz_val:qAl Tryd.prog 84 zbz_c:=qAm zbz_chk 7 zbz_Gok 0 (fun x=>Nat.le_of_ble_eq_true rfl) (fun y=>rfl) zbz_subs fun x y=>by
 simp only [zbz_s,-eq_self,qAd,qAg,obA,obS,slL,slR,qAc];kernel_rfl
def zbz_w:CQ:=qC3 [] zbz_c
theorem zbz_ok:qAe Tryd.prog 84 zbz_w:=qA2 zbz_val
def zcc_b0:IQ:=(.loop [0,1] (.seq (.seq (rg 16 [oM 5 t0,oP 6 (.lenS t5),oP 7 (.bi .gtr t6 (vI 0)),oM 8 t7,oF 9 (.mv t0) 8,oF 10 (.mv t0) 8,oF 11 (.lenS t10) 8,oF 12 (.bi .sub t11 (vI 1)) 8,oF 13 (.index t9 t12) 8,oF 14 (.mv t1) 8,oF 15 (.bi .eql t13 t14) 8,oP 16 (.pick t8 t15 vF)]) (.cond t16 .skip (.cn [0] (.exit 0)))) (.block 1 (rg 0 [oM 17 t0,oM 18 t0,oP 19 (.lenS t18),oP 20 (.bi .sub t19 (vI 1)),oP 21 (.sub none t17 none (some t20)),oM 0 t21]))))
def zcc_q:IQ:=(.seq (rg 4 [oP 4 (.mv (.v (.string ⟨#[]⟩)))]) (.seq (.block 0 (.cn [0,1] (.sub 0 zcc_b0))) (.seq (rg 4 [oM 22 t0,oM 4 t22]) (.cn [4] .ret))))
theorem zcc_chk:chk Tryd.prog 99 []=some (zcc_q.erase,[.tmp 4],23):=by kernel_rfl
def zcc_p0_step (s:BA) (c:Int):Option (BA ⊕ BA) :=
 gd ((decide ((0:Int)<(s.size:Int)))=true→qAj ((s.size:Int) - (1:Int))) <|
 gd ((decide ((0:Int)<(s.size:Int)))=true→0≤((s.size:Int) - (1:Int))∧((s.size:Int) - (1:Int))<s.size) <|
 bif ((decide ((0:Int)<(s.size:Int))) && (decide ((bAt s ((s.size:Int) - (1:Int)))=c))) then (
  gd (qAj ((s.size:Int) - (1:Int))) <|
  gd (0≤(0:Int)∧(0:Int)≤((s.size:Int) - (1:Int))∧((s.size:Int) - (1:Int))≤s.size) <|
  some (.inl (s.extract 0 (Int.toNat ((s.size:Int) - (1:Int))))))
 else (
  some (.inr s))
def zcc_p0 (s:BA) (c:Int):Option BA :=
 qBh (fun x:BA=>zcc_p0_step x c) s
def zcc_s (s:BA) (c:Int):Option BA :=
 (zcc_p0 s c).bind fun o1 =>
 some o1
def zcc_G:Nat→Option CQ:=tblQ []
theorem zcc_Gok:∀f C,zcc_G f=some C→qAe Tryd.prog f C:=fun f C h=>by cases h
def zcc_d0:=(dQS (qAb (dSO 0 dS) (qAb (dSO 1 (dI .u8)) dNil)) dNil)
def zcc_l0:SubQ:=mkL zcc_d0 (fun x=>zcc_p0 x.1.1 x.1.2.1) fun x r R kn kx kr=>kx 0 ⟨[sL 0 (.vS r)],[],[]⟩
def zcc_L:Nat→SubQ:=tblL [(0,zcc_l0)]
theorem zcc_sub0:qBr zcc_L zcc_G 0 5 23 0 zcc_b0:=qAu (show zcc_L 0=zcc_l0 from by kernel_rfl) fun x R kn kx kr=>qAs (step:=fun y=>zcc_p0_step y x.1.2.1) (enc:=fun (y:BA)=>zcc_d0.e ((y,x.1.2),x.2)) (fun y=>by kernel_rfl) (fun y ki=>by simp only [zcc_p0_step,-eq_self,qAd,qAg,obA,obS,slL,slR,qAc]; kernel_rfl) x.1.1
theorem zcc_subs:qAo zcc_L zcc_G 0 5 23 zcc_q:=qAk (show qAp zcc_L zcc_G 0 5 23 [(0,zcc_b0)] from ⟨zcc_sub0,tV⟩)
def zcc_da:=(qAb (dVC (dCO dS)) (qAb (dVC (dCO (dI .u8))) dNil))
def zcc_db:=(dNil:Dec Unit (List SB))
def zcc_c:CS:=mkC zcc_da zcc_db (fun x y=>zcc_s x.1 x.2.1) (fun x y r=>.c (.o (.vS r))) fun x y r=>[]
theorem zcc_val:qAl Tryd.prog 99 zcc_c:=qAm zcc_chk 5 zcc_Gok 0 (fun x=>Nat.le_of_ble_eq_true rfl) (fun y=>rfl) zcc_subs fun x y=>by
 simp only [zcc_s,-eq_self,qAd,qAg,obA,obS,slL,slR,qAc];kernel_rfl
def zcc_w:CQ:=qC3 [] zcc_c
theorem zcc_ok:qAe Tryd.prog 99 zcc_w:=qA2 zcc_val
def zca_q:IQ:=(.seq (rg 4 [oP 4 (.mv (.v (.string ⟨#[]⟩)))]) (.seq (.seq (rg 12 [oM 7 t0,oP 8 (.bi .eql t7 (.v (.string ⟨#[]⟩))),oM 9 t8,oE 10 (.mv t1) 9,oE 11 (.bi .eql t10 (.v (.string ⟨#[]⟩))) 9,oP 12 (.pick t9 vT t11)]) (.cond t12 (.seq (rg 4 [oM 13 t0,oM 4 t13]) (.cn [4] .ret)) .skip)) (.seq (.seq (rg 21 [oM 14 t1,oP 15 (.lenS t14),oP 16 (.bi .eql t15 (vI 1)),oM 17 t16,oF 18 (.mv t1) 17,oF 19 (.index t18 (vI 0)) 17,oF 20 (.bi .lss t19 (vC 128)) 17,oP 21 (.pick t17 t20 vF)]) (.cond t21 (.seq (rg 4 [oM 22 t0,oM 23 t1,oP 24 (.index t23 (vI 0)),oP 25 (.call 99 [t22,t24]),oM 4 t25]) (.cn [4] .ret)) .skip)) (.seq (.seq (rg 6 [oM 27 t1,oP 28 (.call 96 [t27]),oM 26 t28,oP 29 (.extract t26 0),oP 30 (.extract t26 1),oP 5 (.alloc 156 [.bool false,.bool false,.bool false,.bool false,.bool false,.bool false,.bool false,.bool false,.bool false,.bool false,.bool false,.bool false,.bool false,.bool false,.bool false,.bool false,.bool false,.bool false,.bool false,.bool false,.bool false,.bool false,.bool false,.bool false,.bool false,.bool false,.bool false,.bool false,.bool false,.bool false,.bool false,.bool false,.bool false,.bool false,.bool false,.bool false,.bool false,.bool false,.bool false,.bool false,.bool false,.bool false,.bool false,.bool false,.bool false,.bool false,.bool false,.bool false,.bool false,.bool false,.bool false,.bool false,.bool false,.bool false,.bool false,.bool false,.bool false,.bool false,.bool false,.bool false,.bool false,.bool false,.bool false,.bool false,.bool false,.bool false,.bool false,.bool false,.bool false,.bool false,.bool false,.bool false,.bool false,.bool false,.bool false,.bool false,.bool false,.bool false,.bool false,.bool false,.bool false,.bool false,.bool false,.bool false,.bool false,.bool false,.bool false,.bool false,.bool false,.bool false,.bool false,.bool false,.bool false,.bool false,.bool false,.bool false,.bool false,.bool false,.bool false,.bool false,.bool false,.bool false,.bool false,.bool false,.bool false,.bool false,.bool false,.bool false,.bool false,.bool false,.bool false,.bool false,.bool false,.bool false,.bool false,.bool false,.bool false,.bool false,.bool false,.bool false,.bool false,.bool false,.bool false,.bool false,.bool false,.bool false,.bool false,.bool false,.bool false,.bool false,.bool false,.bool false,.bool false,.bool false,.bool false,.bool false,.bool false,.bool false,.bool false,.bool false,.bool false,.bool false,.bool false,.bool false,.bool false,.bool false,.bool false,.bool false,.bool false,.bool false,.bool false,.bool false,.bool false,.bool false,.bool false,.bool false,.bool false,.bool false,.bool false,.bool false,.bool false,.bool false,.bool false,.bool false,.bool false,.bool false,.bool false,.bool false,.bool false,.bool false,.bool false,.bool false,.bool false,.bool false,.bool false,.bool false,.bool false,.bool false,.bool false,.bool false,.bool false,.bool false,.bool false,.bool false,.bool false,.bool false,.bool false,.bool false,.bool false,.bool false,.bool false,.bool false,.bool false,.bool false,.bool false,.bool false,.bool false,.bool false,.bool false,.bool false,.bool false,.bool false,.bool false,.bool false,.bool false,.bool false,.bool false,.bool false,.bool false,.bool false,.bool false,.bool false,.bool false,.bool false,.bool false,.bool false,.bool false,.bool false,.bool false,.bool false,.bool false,.bool false,.bool false,.bool false,.bool false,.bool false,.bool false,.bool false,.bool false,.bool false,.bool false,.bool false,.bool false,.bool false,.bool false,.bool false,.bool false,.bool false,.bool false,.bool false,.bool false,.bool false,.bool false,.bool false,.bool false,.bool false,.bool false,.bool false,.bool false,.bool false,.bool false,.bool false,.bool false,.bool false,.bool false,.bool false]),oN (.store 256 t5 t29),oM 6 t30]) (.seq (rg 31 [oM 31 t6]) (.cond t31 (.seq (rg 4 [oM 32 t0,oP 33 (.call 100 [t32,t5]),oM 4 t33]) (.cn [4] .ret)) .skip))) (.seq (rg 4 [oM 34 t0,oM 35 t1,oP 36 (.call 101 [t34,t35]),oM 4 t36]) (.cn [4] .ret))))))
theorem zca_chk:chk Tryd.prog 85 []=some (zca_q.erase,[.tmp 4],37):=by kernel_rfl
def zca_s (s cutset:BA):Option BA :=
 bif ((decide (s=(⟨#[]⟩:BA))) || (decide (cutset=(⟨#[]⟩:BA)))) then (
  some s)
 else (
  gd ((decide ((cutset.size:Int)=(1:Int)))=true→0≤(0:Int)∧(0:Int)<cutset.size) <|
  bif ((decide ((cutset.size:Int)=(1:Int))) && (decide ((bAt cutset (0:Int))<(128:Int)))) then (
   gd (0≤(0:Int)∧(0:Int)<cutset.size) <|
   (zcc_s s (bAt cutset (0:Int))).bind fun r1 =>
   some r1)
  else (
   none))
def zca_G:Nat→Option CQ:=tblQ [(99,zcc_w)]
theorem zca_Gok:∀f C,zca_G f=some C→qAe Tryd.prog f C:=qAi ⟨zcc_ok,tV⟩
def zca_L:Nat→SubQ:=tblL []
theorem zca_subs:qAo zca_L zca_G 0 7 37 zca_q:=qAk (show qAp zca_L zca_G 0 7 37 [] from tV)
def zca_da:=(qAb (dVC (dCO dS)) (qAb (dVC (dCO dS)) dNil))
def zca_db:=(dNil:Dec Unit (List SB))
def zca_c:CS:=mkC zca_da zca_db (fun x y=>zca_s x.1 x.2.1) (fun x y r=>.c (.o (.vS r))) fun x y r=>[]
theorem zca_val:qAl Tryd.prog 85 zca_c:=qAm zca_chk 7 zca_Gok 0 (fun x=>Nat.le_of_ble_eq_true rfl) (fun y=>rfl) zca_subs fun x y=>by
 simp only [zca_s,-eq_self,qAd,qAg,obA,obS,slL,slR,qAc];kernel_rfl
def zca_w:CQ:=qC3 [] zca_c
theorem zca_ok:qAe Tryd.prog 85 zca_w:=qA2 zca_val
def zab_b0:IQ:=(.join [] [0,4,6,7] (.seq (rg 8 [oM 29 t0,oP 30 (.call 83 [t29]),oM 8 t30]) (.seq (.seq (rg 41 [oM 31 t8,oP 32 (.bi .eql t31 (vI 0)),oM 33 t32,oE 34 (.mv t8) 33,oE 35 (.bi .gtr t34 (vI 1)) 33,oE 36 (.mv t35) 33,oF 37 (.mv t0) 36,oF 38 (.index t37 (vI 0)) 36,oF 39 (.bi .eql t38 (vC 48)) 36,oE 40 (.pick t36 t39 vF) 33,oP 41 (.pick t33 vT t40)]) (.cond t41 (.seq (rg 5 [oP 42 (.load (some 7) t6),oN (.store 7 t4 t42),oP 5 (.mv vF)]) (.cn [4,5] .ret)) .skip)) (.reg 0 (some [0,1,2,3,4,5,6,7,8]) [oM 43 t0,oM 44 t8,oP 45 (.sub none t43 none (some t44)),oM 46 t0,oM 47 t8,oP 48 (.sub none t46 (some t47) none),oP 49 (.faddr 1 t6),oN (.store 1 t49 t45),oM 0 t48]))))
def zab_b1:IQ:=(.join [] [0,4,6,7] (.seq (rg 10 [oM 51 t0,oP 52 (.call 82 [t51,(.v (.string ⟨#[46]⟩))]),oM 50 t52,oP 53 (.extract t50 0),oP 54 (.extract t50 1),oM 9 t53,oM 10 t54]) (.seq (rg 55 [oM 55 t10]) (.cond t55 (.seq (rg 11 [oM 56 t9,oP 57 (.call 83 [t56]),oM 11 t57]) (.seq (.seq (rg 59 [oM 58 t11,oP 59 (.bi .eql t58 (vI 0))]) (.cond t59 (.seq (rg 5 [oP 60 (.load (some 7) t6),oN (.store 7 t4 t60),oP 5 (.mv vF)]) (.cn [4,5] .ret)) .skip)) (.reg 0 (some [0,1,2,3,4,5,6,7,8,9]) [oM 61 t9,oM 62 t11,oP 63 (.sub none t61 none (some t62)),oM 64 t9,oM 65 t11,oP 66 (.sub none t64 (some t65) none),oP 67 (.faddr 4 t6),oN (.store 1 t67 vF),oM 7 t63,oM 0 t66]))) .skip))))
def zab_b3:IQ:=(.join [] [0,4,6,7] (.seq (.seq (rg 104 [oM 96 t0,oP 97 (.bi .eql t96 (.v (.string ⟨#[]⟩))),oM 98 t97,oE 99 (.mv t0) 98,oE 100 (.call 83 [t99]) 98,oE 101 (.mv t0) 98,oE 102 (.lenS t101) 98,oE 103 (.bi .neq t100 t102) 98,oP 104 (.pick t98 vT t103)]) (.cond t104 (.seq (rg 5 [oP 105 (.load (some 7) t6),oN (.store 7 t4 t105),oP 5 (.mv vF)]) (.cn [4,5] .ret)) .skip)) (rg 0 [oM 106 t0,oP 107 (.call 84 [t106,(.v (.string ⟨#[48]⟩))]),oP 108 (.faddr 4 t6),oN (.store 1 t108 vF),oP 109 (.faddr 6 t6),oN (.store 1 t109 t107),oP 0 (.mv (.v (.string ⟨#[]⟩)))])))
def zab_b2:IQ:=(.seq (.seq (rg 75 [oM 68 t0,oP 69 (.bi .neq t68 (.v (.string ⟨#[]⟩))),oM 70 t69,oF 71 (.mv t0) 70,oF 72 (.index t71 (vI 0)) 70,oF 73 (.bi .or t72 (vC 32)) 70,oF 74 (.bi .eql t73 (vC 101)) 70,oP 75 (.pick t70 t74 vF)]) (.cond t75 (.seq (rg 0 [oM 76 t0,oP 77 (.sub none t76 (some (vI 1)) none),oM 0 t77]) (.seq (.seq (rg 89 [oM 78 t0,oP 79 (.bi .neq t78 (.v (.string ⟨#[]⟩))),oM 80 t79,oF 81 (.mv t0) 80,oF 82 (.index t81 (vI 0)) 80,oF 83 (.bi .eql t82 (vC 43)) 80,oF 84 (.mv t83) 80,oE 85 (.mv t0) 84,oE 86 (.index t85 (vI 0)) 84,oE 87 (.bi .eql t86 (vC 45)) 84,oF 88 (.pick t84 vT t87) 80,oP 89 (.pick t80 t88 vF)]) (.cond t89 (.reg 0 (some [0,1,2,3,4,5,6,7]) [oM 90 t0,oP 91 (.index t90 (vI 0)),oP 92 (.bi .eql t91 (vC 45)),oM 93 t0,oP 94 (.sub none t93 (some (vI 1)) none),oP 95 (.faddr 5 t6),oN (.store 1 t95 t92),oM 0 t94]) .skip)) (.cn [0,4,6,7] (.sub 3 zab_b3)))) .skip)) (.cn [0,4,6,7] (.exit 0)))
def zab_b4:IQ:=(.seq (rg 12 [oP 110 (.faddr 1 t6),oP 111 (.load none t110),oM 112 t7,oP 113 (.bi .add t111 t112),oM 12 t113]) (.seq (rg 0 [oM 114 t12,oP 115 (.call 84 [t114,(.v (.string ⟨#[48]⟩))]),oP 116 (.faddr 2 t6),oN (.store 1 t116 t115)]) (.seq (rg 0 [oP 117 (.faddr 1 t6),oP 118 (.load none t117),oP 119 (.lenS t118),oM 120 t12,oP 121 (.lenS t120),oP 122 (.faddr 2 t6),oP 123 (.load none t122),oP 124 (.lenS t123),oP 125 (.bi .sub t121 t124),oP 126 (.bi .sub t119 t125),oP 127 (.faddr 3 t6),oN (.store 1 t127 t126)]) (.seq (rg 0 [oP 128 (.faddr 2 t6),oP 129 (.load none t128),oP 130 (.call 85 [t129,(.v (.string ⟨#[48]⟩))]),oP 131 (.faddr 2 t6),oN (.store 1 t131 t130)]) (.seq (.seq (rg 134 [oP 132 (.faddr 6 t6),oP 133 (.load none t132),oP 134 (.bi .eql t133 (.v (.string ⟨#[]⟩)))]) (.cond t134 (rg 0 [oP 135 (.faddr 5 t6),oN (.store 1 t135 vF)]) .skip)) (.seq (rg 5 [oP 136 (.load (some 7) t6),oM 137 t0,oP 138 (.bi .eql t137 (.v (.string ⟨#[]⟩))),oN (.store 7 t4 t136),oM 5 t138]) (.cn [4,5] .ret)))))))
def zab_q:IQ:=(.seq (rg 5 [oP 4 (.alloc 127 [.bool false,.string ⟨#[]⟩,.string ⟨#[]⟩,.int .i64 0,.bool false,.bool false,.string ⟨#[]⟩]),oP 5 (.mv vF)]) (.seq (rg 0 [oP 13 (.build [.bool false,.string ⟨#[]⟩,.string ⟨#[]⟩,.int .i64 0,.bool false,.bool false,.string ⟨#[]⟩] [(4,1,vT)]),oP 6 (.alloc 127 [.bool false,.string ⟨#[]⟩,.string ⟨#[]⟩,.int .i64 0,.bool false,.bool false,.string ⟨#[]⟩]),oN (.store 7 t6 t13)]) (.seq (rg 7 [oP 7 (.mv (.v (.string ⟨#[]⟩)))]) (.seq (.seq (rg 14 [oM 14 t1]) (.block 0 (.seq (.block 4 (.seq (.block 3 (.seq (.block 2 (.seq (.block 1 (.seq (.seq (.seq (rg 15 [oP 16 (.bi .eql t14 (vI 0)),oM 15 t16]) (.cond t15 (.exit 1) .skip)) (.seq (.seq (rg 17 [oP 18 (.bi .eql t14 (vI 1)),oM 17 t18]) (.cond t17 (.exit 2) .skip)) (.seq (.seq (rg 19 [oP 20 (.bi .eql t14 (vI 2)),oM 19 t20]) (.cond t19 (.exit 3) .skip)) (.seq (rg 21 [oP 22 (.bi .eql t14 (vI 3)),oM 21 t22]) (.cond t21 (.exit 4) .skip))))) (.exit 0))) (rg 0 [oM 24 t0,oP 25 (.call 82 [t24,(.v (.string ⟨#[45]⟩))]),oM 23 t25,oP 26 (.extract t23 0),oP 27 (.extract t23 1),oM 0 t26,oP 28 (.faddr 0 t6),oN (.store 1 t28 t27)]))) (.cn [0,4,6,7] (.sub 0 zab_b0)))) (.cn [0,4,6,7] (.sub 1 zab_b1)))) (.cn [0,4,6,7] (.sub 2 zab_b2))))) (.cn [0,4,6,7] (.sub 4 zab_b4))))))
theorem zab_chk:chk Tryd.prog 71 []=some (zab_q.erase,[.cell 4 (some 7),.tmp 5],139):=by kernel_rfl
def zab_p0 (s:BA):Option (Bool ⊕ (BA × BA)) :=
 (zac_s s).bind fun r2 =>
 gd ((decide ((1:Int)<r2))=true→(decide (r2=(0:Int)))=false→0≤(0:Int)∧(0:Int)<s.size) <|
 bif ((decide (r2=(0:Int))) || ((decide ((1:Int)<r2)) && (decide ((bAt s (0:Int))=(48:Int))))) then (
  some (.inl false))
 else (
  gd (0≤(0:Int)∧(0:Int)≤r2∧r2≤s.size) <|
  gd (0≤r2∧r2≤(s.size:Int)∧(s.size:Int)≤s.size) <|
  some (.inr ((s.extract (Int.toNat r2) s.size),(s.extract 0 (Int.toNat r2)))))
def zab_p1 (s behind:BA) (n_plain:Bool):Option (Bool ⊕ (BA × BA × Bool)) :=
 (zby_s s (⟨#[46]⟩:BA)).bind fun r4 =>
 bif r4.2 then (
  (zac_s r4.1).bind fun r5 =>
  bif decide (r5=(0:Int)) then (
   some (.inl false))
  else (
   gd (0≤(0:Int)∧(0:Int)≤r5∧r5≤r4.1.size) <|
   gd (0≤r5∧r5≤(r4.1.size:Int)∧(r4.1.size:Int)≤r4.1.size) <|
   some (.inr ((r4.1.extract (Int.toNat r5) r4.1.size),(r4.1.extract 0 (Int.toNat r5)),false))))
 else (
  some (.inr (s,behind,n_plain)))
def zab_p3 (s:BA):Option (Bool ⊕ (BA × Bool × BA)) :=
 bif decide (s=(⟨#[]⟩:BA)) then (
  some (.inl false))
 else (
  (zac_s s).bind fun r7 =>
  bif (!decide (r7=(s.size:Int))) then (
   some (.inl false))
  else (
   (zbz_s s (⟨#[48]⟩:BA)).bind fun r8 =>
   some (.inr ((⟨#[]⟩:BA),false,r8))))
def zab_p2 (s:BA) (n_plain n_down:Bool) (n_exp:BA):Option ((Bool × Bool) ⊕ (BA × Bool × Bool × BA)) :=
 gd ((!decide (s=(⟨#[]⟩:BA)))=true→0≤(0:Int)∧(0:Int)<s.size) <|
 bif ((!decide (s=(⟨#[]⟩:BA))) && (decide ((qBl .u8 (bAt s (0:Int)) (32:Int))=(101:Int)))) then (
  gd (0≤(1:Int)∧(1:Int)≤(s.size:Int)∧(s.size:Int)≤s.size) <|
  gd ((!decide ((s.extract 1 s.size)=(⟨#[]⟩:BA)))=true→0≤(0:Int)∧(0:Int)<(s.extract 1 s.size).size) <|
  gd ((decide ((bAt (s.extract 1 s.size) (0:Int))=(43:Int)))=false→(!decide ((s.extract 1 s.size)=(⟨#[]⟩:BA)))=true→0≤(0:Int)∧(0:Int)<(s.extract 1 s.size).size) <|
  bif ((!decide ((s.extract 1 s.size)=(⟨#[]⟩:BA))) && ((decide ((bAt (s.extract 1 s.size) (0:Int))=(43:Int))) || (decide ((bAt (s.extract 1 s.size) (0:Int))=(45:Int))))) then (
   gd (0≤(0:Int)∧(0:Int)<(s.extract 1 s.size).size) <|
   gd (0≤(1:Int)∧(1:Int)≤((s.extract 1 s.size).size:Int)∧((s.extract 1 s.size).size:Int)≤(s.extract 1 s.size).size) <|
   (zab_p3 ((s.extract 1 s.size).extract 1 (s.extract 1 s.size).size)).bind fun o9=>(Sum.elim (fun (o9_0:Bool) =>
    some (.inl (o9_0,decide ((bAt (s.extract 1 s.size) (0:Int))=(45:Int))))) (fun (o9_1:BA × Bool × BA) =>
    some (.inr (o9_1.1,o9_1.2.1,decide ((bAt (s.extract 1 s.size) (0:Int))=(45:Int)),o9_1.2.2)))) o9)
  else (
   (zab_p3 (s.extract 1 s.size)).bind fun o10=>(Sum.elim (fun (o10_0:Bool) =>
    some (.inl (o10_0,n_down))) (fun (o10_1:BA × Bool × BA) =>
    some (.inr (o10_1.1,o10_1.2.1,n_down,o10_1.2.2)))) o10))
 else (
  some (.inr (s,n_plain,n_down,n_exp)))
def zab_p4 (s behind n_whole:BA) (n_down:Bool) (n_exp:BA):Option (Bool × BA × Int × Bool) :=
 gd (n_whole.size+behind.size≤9223372036854775807) <|
 (zbz_s (n_whole++behind) (⟨#[48]⟩:BA)).bind fun r12 =>
 gd (qAj (((n_whole++behind).size:Int) - (r12.size:Int))) <|
 gd (qAj ((n_whole.size:Int) - (((n_whole++behind).size:Int) - (r12.size:Int)))) <|
 (zca_s r12 (⟨#[48]⟩:BA)).bind fun r13 =>
 bif decide (n_exp=(⟨#[]⟩:BA)) then (
  some (decide (s=(⟨#[]⟩:BA)),r13,((n_whole.size:Int) - (((n_whole++behind).size:Int) - (r12.size:Int))),false))
 else (
  some (decide (s=(⟨#[]⟩:BA)),r13,((n_whole.size:Int) - (((n_whole++behind).size:Int) - (r12.size:Int))),n_down))
def zab_s (s:BA) (part:Int):Option (decimal_number × Bool) :=
 bif decide (part=(0:Int)) then (
  (zby_s s (⟨#[45]⟩:BA)).bind fun r1 =>
  (zab_p0 r1.1).bind fun o3=>(Sum.elim (fun (o3_0:Bool) =>
   some ((⟨r1.2,(⟨#[]⟩:BA),(⟨#[]⟩:BA),(0:Int),true,false,(⟨#[]⟩:BA)⟩:decimal_number),o3_0)) (fun (o3_1:BA × BA) =>
   (zab_p1 o3_1.1 (⟨#[]⟩:BA) true).bind fun o6=>(Sum.elim (fun (o6_0:Bool) =>
    some ((⟨r1.2,o3_1.2,(⟨#[]⟩:BA),(0:Int),true,false,(⟨#[]⟩:BA)⟩:decimal_number),o6_0)) (fun (o6_1:BA × BA × Bool) =>
    (zab_p2 o6_1.1 o6_1.2.2 false (⟨#[]⟩:BA)).bind fun o11=>(Sum.elim (fun (o11_0:Bool × Bool) =>
     some ((⟨r1.2,o3_1.2,(⟨#[]⟩:BA),(0:Int),o6_1.2.2,o11_0.2,(⟨#[]⟩:BA)⟩:decimal_number),o11_0.1)) (fun (o11_1:BA × Bool × Bool × BA) =>
     (zab_p4 o11_1.1 o6_1.2.1 o3_1.2 o11_1.2.2.1 o11_1.2.2.2).bind fun o14 =>
     some ((⟨r1.2,o3_1.2,o14.2.1,o14.2.2.1,o11_1.2.1,o14.2.2.2,o11_1.2.2.2⟩:decimal_number),o14.1))) o11)) o6)) o3)
 else (
  bif decide (part=(1:Int)) then (
   (zab_p0 s).bind fun o15=>(Sum.elim (fun (o15_0:Bool) =>
    some ((⟨false,(⟨#[]⟩:BA),(⟨#[]⟩:BA),(0:Int),true,false,(⟨#[]⟩:BA)⟩:decimal_number),o15_0)) (fun (o15_1:BA × BA) =>
    (zab_p1 o15_1.1 (⟨#[]⟩:BA) true).bind fun o16=>(Sum.elim (fun (o16_0:Bool) =>
     some ((⟨false,o15_1.2,(⟨#[]⟩:BA),(0:Int),true,false,(⟨#[]⟩:BA)⟩:decimal_number),o16_0)) (fun (o16_1:BA × BA × Bool) =>
     (zab_p2 o16_1.1 o16_1.2.2 false (⟨#[]⟩:BA)).bind fun o17=>(Sum.elim (fun (o17_0:Bool × Bool) =>
      some ((⟨false,o15_1.2,(⟨#[]⟩:BA),(0:Int),o16_1.2.2,o17_0.2,(⟨#[]⟩:BA)⟩:decimal_number),o17_0.1)) (fun (o17_1:BA × Bool × Bool × BA) =>
      (zab_p4 o17_1.1 o16_1.2.1 o15_1.2 o17_1.2.2.1 o17_1.2.2.2).bind fun o18 =>
      some ((⟨false,o15_1.2,o18.2.1,o18.2.2.1,o17_1.2.1,o18.2.2.2,o17_1.2.2.2⟩:decimal_number),o18.1))) o17)) o16)) o15)
  else (
   bif decide (part=(2:Int)) then (
    (zab_p1 s (⟨#[]⟩:BA) true).bind fun o19=>(Sum.elim (fun (o19_0:Bool) =>
     some ((⟨false,(⟨#[]⟩:BA),(⟨#[]⟩:BA),(0:Int),true,false,(⟨#[]⟩:BA)⟩:decimal_number),o19_0)) (fun (o19_1:BA × BA × Bool) =>
     (zab_p2 o19_1.1 o19_1.2.2 false (⟨#[]⟩:BA)).bind fun o20=>(Sum.elim (fun (o20_0:Bool × Bool) =>
      some ((⟨false,(⟨#[]⟩:BA),(⟨#[]⟩:BA),(0:Int),o19_1.2.2,o20_0.2,(⟨#[]⟩:BA)⟩:decimal_number),o20_0.1)) (fun (o20_1:BA × Bool × Bool × BA) =>
      (zab_p4 o20_1.1 o19_1.2.1 (⟨#[]⟩:BA) o20_1.2.2.1 o20_1.2.2.2).bind fun o21 =>
      some ((⟨false,(⟨#[]⟩:BA),o21.2.1,o21.2.2.1,o20_1.2.1,o21.2.2.2,o20_1.2.2.2⟩:decimal_number),o21.1))) o20)) o19)
   else (
    bif decide (part=(3:Int)) then (
     (zab_p2 s true false (⟨#[]⟩:BA)).bind fun o22=>(Sum.elim (fun (o22_0:Bool × Bool) =>
      some ((⟨false,(⟨#[]⟩:BA),(⟨#[]⟩:BA),(0:Int),true,o22_0.2,(⟨#[]⟩:BA)⟩:decimal_number),o22_0.1)) (fun (o22_1:BA × Bool × Bool × BA) =>
      (zab_p4 o22_1.1 (⟨#[]⟩:BA) (⟨#[]⟩:BA) o22_1.2.2.1 o22_1.2.2.2).bind fun o23 =>
      some ((⟨false,(⟨#[]⟩:BA),o23.2.1,o23.2.2.1,o22_1.2.1,o23.2.2.2,o22_1.2.2.2⟩:decimal_number),o23.1))) o22)
    else (
     (zab_p4 s (⟨#[]⟩:BA) (⟨#[]⟩:BA) false (⟨#[]⟩:BA)).bind fun o24 =>
     some ((⟨false,(⟨#[]⟩:BA),o24.2.1,o24.2.2.1,true,o24.2.2.2,(⟨#[]⟩:BA)⟩:decimal_number),o24.1)))))
def zab_G:Nat→Option CQ:=tblQ [(82,zby_w),(83,zac_w),(84,zbz_w),(85,zca_w)]
theorem zab_Gok:∀f C,zab_G f=some C→qAe Tryd.prog f C:=qAi ⟨zby_ok,zac_ok,zbz_ok,zca_ok,tV⟩
def zDGC1:=(dCells 127 (qAb dB (qAb dS (qAb dS (qAb dZ (qAb dB (qAb dB (qAb dS dNil))))))))
def zDGC2:=(qAb (dSO 0 dS) (qAb (dSO 4 (dH 0 0)) (qAb (dSO 6 (dH 1 0)) (qAb (dSO 7 dS) dNil))))
def zDGC3:=(qAb zDGC1 (qAb zDGC1 dNil))
def zab_d0:=(dQS zDGC2 zDGC3)
def zab_l0:SubQ:=mkL zab_d0 (fun x=>zab_p0 x.1.1) fun x r R kn kx kr=>(Sum.elim (fun (r_0:Bool)=>kr ⟨[sL 4 (.hd 0 0),sL 5 (.vB r_0)],[],[.cells 127 [.vB x.2.2.1.1,.vS x.2.2.1.2.1,.vS x.2.2.1.2.2.1,.vI x.2.2.1.2.2.2.1,.vB x.2.2.1.2.2.2.2.1,.vB x.2.2.1.2.2.2.2.2.1,.vS x.2.2.1.2.2.2.2.2.2.1]]⟩) (fun (r_1:BA × BA)=>kn ⟨[sL 0 (.vS r_1.1),sL 4 (.hd 0 0),sL 6 (.hd 1 0),sL 7 (.vS x.1.2.2.2.1)],[],[.cells 127 [.vB x.2.1.1,.vS x.2.1.2.1,.vS x.2.1.2.2.1,.vI x.2.1.2.2.2.1,.vB x.2.1.2.2.2.2.1,.vB x.2.1.2.2.2.2.2.1,.vS x.2.1.2.2.2.2.2.2.1],.cells 127 [.vB x.2.2.1.1,.vS r_1.2,.vS x.2.2.1.2.2.1,.vI x.2.2.1.2.2.2.1,.vB x.2.2.1.2.2.2.2.1,.vB x.2.2.1.2.2.2.2.2.1,.vS x.2.2.1.2.2.2.2.2.2.1]]⟩)) r
def zab_d1:=(dQS zDGC2 zDGC3)
def zab_l1:SubQ:=mkL zab_d1 (fun x=>zab_p1 x.1.1 x.1.2.2.2.1 x.2.2.1.2.2.2.2.1) fun x r R kn kx kr=>(Sum.elim (fun (r_0:Bool)=>kr ⟨[sL 4 (.hd 0 0),sL 5 (.vB r_0)],[],[.cells 127 [.vB x.2.2.1.1,.vS x.2.2.1.2.1,.vS x.2.2.1.2.2.1,.vI x.2.2.1.2.2.2.1,.vB x.2.2.1.2.2.2.2.1,.vB x.2.2.1.2.2.2.2.2.1,.vS x.2.2.1.2.2.2.2.2.2.1]]⟩) (fun (r_1:BA × BA × Bool)=>kn ⟨[sL 0 (.vS r_1.1),sL 4 (.hd 0 0),sL 6 (.hd 1 0),sL 7 (.vS r_1.2.1)],[],[.cells 127 [.vB x.2.1.1,.vS x.2.1.2.1,.vS x.2.1.2.2.1,.vI x.2.1.2.2.2.1,.vB x.2.1.2.2.2.2.1,.vB x.2.1.2.2.2.2.2.1,.vS x.2.1.2.2.2.2.2.2.1],.cells 127 [.vB x.2.2.1.1,.vS x.2.2.1.2.1,.vS x.2.2.1.2.2.1,.vI x.2.2.1.2.2.2.1,.vB r_1.2.2,.vB x.2.2.1.2.2.2.2.2.1,.vS x.2.2.1.2.2.2.2.2.2.1]]⟩)) r
def zab_d3:=(dQS zDGC2 zDGC3)
def zab_l3:SubQ:=mkL zab_d3 (fun x=>zab_p3 x.1.1) fun x r R kn kx kr=>(Sum.elim (fun (r_0:Bool)=>kr ⟨[sL 4 (.hd 0 0),sL 5 (.vB r_0)],[],[.cells 127 [.vB x.2.2.1.1,.vS x.2.2.1.2.1,.vS x.2.2.1.2.2.1,.vI x.2.2.1.2.2.2.1,.vB x.2.2.1.2.2.2.2.1,.vB x.2.2.1.2.2.2.2.2.1,.vS x.2.2.1.2.2.2.2.2.2.1]]⟩) (fun (r_1:BA × Bool × BA)=>kn ⟨[sL 0 (.vS r_1.1),sL 4 (.hd 0 0),sL 6 (.hd 1 0),sL 7 (.vS x.1.2.2.2.1)],[],[.cells 127 [.vB x.2.1.1,.vS x.2.1.2.1,.vS x.2.1.2.2.1,.vI x.2.1.2.2.2.1,.vB x.2.1.2.2.2.2.1,.vB x.2.1.2.2.2.2.2.1,.vS x.2.1.2.2.2.2.2.2.1],.cells 127 [.vB x.2.2.1.1,.vS x.2.2.1.2.1,.vS x.2.2.1.2.2.1,.vI x.2.2.1.2.2.2.1,.vB r_1.2.1,.vB x.2.2.1.2.2.2.2.2.1,.vS r_1.2.2]]⟩)) r
def zab_d2:=(dQS zDGC2 zDGC3)
def zab_l2:SubQ:=mkL zab_d2 (fun x=>zab_p2 x.1.1 x.2.2.1.2.2.2.2.1 x.2.2.1.2.2.2.2.2.1 x.2.2.1.2.2.2.2.2.2.1) fun x r R kn kx kr=>(Sum.elim (fun (r_0:Bool × Bool)=>kr ⟨[sL 4 (.hd 0 0),sL 5 (.vB r_0.1)],[],[.cells 127 [.vB x.2.2.1.1,.vS x.2.2.1.2.1,.vS x.2.2.1.2.2.1,.vI x.2.2.1.2.2.2.1,.vB x.2.2.1.2.2.2.2.1,.vB r_0.2,.vS x.2.2.1.2.2.2.2.2.2.1]]⟩) (fun (r_1:BA × Bool × Bool × BA)=>kx 0 ⟨[sL 0 (.vS r_1.1),sL 4 (.hd 0 0),sL 6 (.hd 1 0),sL 7 (.vS x.1.2.2.2.1)],[],[.cells 127 [.vB x.2.1.1,.vS x.2.1.2.1,.vS x.2.1.2.2.1,.vI x.2.1.2.2.2.1,.vB x.2.1.2.2.2.2.1,.vB x.2.1.2.2.2.2.2.1,.vS x.2.1.2.2.2.2.2.2.1],.cells 127 [.vB x.2.2.1.1,.vS x.2.2.1.2.1,.vS x.2.2.1.2.2.1,.vI x.2.2.1.2.2.2.1,.vB r_1.2.1,.vB r_1.2.2.1,.vS r_1.2.2.2]]⟩)) r
def zab_d4:=(dQS zDGC2 zDGC3)
def zab_l4:SubQ:=mkL zab_d4 (fun x=>zab_p4 x.1.1 x.1.2.2.2.1 x.2.2.1.2.1 x.2.2.1.2.2.2.2.2.1 x.2.2.1.2.2.2.2.2.2.1) fun x r R kn kx kr=>kr ⟨[sL 4 (.hd 0 0),sL 5 (.vB r.1)],[],[.cells 127 [.vB x.2.2.1.1,.vS x.2.2.1.2.1,.vS r.2.1,.vI r.2.2.1,.vB x.2.2.1.2.2.2.2.1,.vB r.2.2.2,.vS x.2.2.1.2.2.2.2.2.2.1]]⟩
def zab_L:Nat→SubQ:=tblL [(0,zab_l0),(1,zab_l1),(3,zab_l3),(2,zab_l2),(4,zab_l4)]
theorem zab_sub0:qBr zab_L zab_G 0 15 139 0 zab_b0:=qAu (show zab_L 0=zab_l0 from by kernel_rfl) fun x R kn kx kr=>by
 simp only [zab_p0,-eq_self,qAd,qAg,obA,obS,slL,slR,qAc];kernel_rfl
theorem zab_sub1:qBr zab_L zab_G 0 15 139 1 zab_b1:=qAu (show zab_L 1=zab_l1 from by kernel_rfl) fun x R kn kx kr=>by
 simp only [zab_p1,-eq_self,qAd,qAg,obA,obS,slL,slR,qAc];kernel_rfl
theorem zab_sub3:qBr zab_L zab_G 0 15 139 3 zab_b3:=qAu (show zab_L 3=zab_l3 from by kernel_rfl) fun x R kn kx kr=>by
 simp only [zab_p3,-eq_self,qAd,qAg,obA,obS,slL,slR,qAc];kernel_rfl
theorem zab_sub2:qBr zab_L zab_G 0 15 139 2 zab_b2:=qAu (show zab_L 2=zab_l2 from by kernel_rfl) fun x R kn kx kr=>by
 simp only [zab_p2,-eq_self,qAd,qAg,obA,obS,slL,slR,qAc];kernel_rfl
theorem zab_sub4:qBr zab_L zab_G 0 15 139 4 zab_b4:=qAu (show zab_L 4=zab_l4 from by kernel_rfl) fun x R kn kx kr=>by
 simp only [zab_p4,-eq_self,qAd,qAg,obA,obS,slL,slR,qAc];kernel_rfl
theorem zab_subs:qAo zab_L zab_G 0 15 139 zab_q:=qAk (show qAp zab_L zab_G 0 15 139 [(0,zab_b0),(1,zab_b1),(2,zab_b2),(3,zab_b3),(4,zab_b4)] from ⟨zab_sub0,zab_sub1,zab_sub2,zab_sub3,zab_sub4,tV⟩)
def zab_da:=(qAb (dVC (dCO dS)) (qAb (dVC (dCO dZ)) dNil))
def zab_db:=(dNil:Dec Unit (List SB))
def zab_c:CS:=mkC zab_da zab_db (fun x y=>zab_s x.1 x.2.1) (fun x y r=>.tup [.agg [.vB r.1.minus,.vS r.1.whole,.vS r.1.digits,.vI r.1.point,.vB r.1.plain,.vB r.1.down,.vS r.1.exp_],.o (.vB r.2)]) fun x y r=>[]
theorem zab_val:qAl Tryd.prog 71 zab_c:=qAm zab_chk 15 zab_Gok 0 (fun x=>Nat.le_of_ble_eq_true rfl) (fun y=>rfl) zab_subs fun x y=>by
 simp only [zab_s,-eq_self,qAd,qAg,obA,obS,slL,slR,qAc];kernel_rfl
def zab_w:CQ:=qC3 [] zab_c
theorem zab_ok:qAe Tryd.prog 71 zab_w:=qA2 zab_val
def zaa_b0:IQ:=(.loop [4,6,23,24] (.seq (rg 25 [oP 25 (.bi .lss t24 t23)]) (.seq (.cond t25 .skip (.cn [4,6] (.exit 0))) (.seq (.block 1 (.seq (rg 7 [oM 26 t24,oM 7 t26]) (.seq (rg 8 [oP 27 (.faddr 1 t4),oP 28 (.load none t27),oM 29 t7,oP 30 (.index t28 t29),oP 31 (.bi .sub t30 (vC 48)),oP 32 (.conv false .u64 t31),oM 8 t32]) (.seq (.seq (rg 37 [oM 33 t6,oM 34 t8,oP 35 (.bi .sub (.v (.int .u64 9223372036854775808)) t34),oP 36 (.bi .quo t35 (.v (.int .u64 10))),oP 37 (.bi .gtr t33 t36)]) (.cond t37 (.seq (rg 3 [oP 2 (.mv (vI 0)),oP 3 (.mv vF)]) (.cn [2,3] .ret)) .skip)) (rg 6 [oM 38 t6,oP 39 (.bi .mul (.v (.int .u64 10)) t38),oM 40 t8,oP 41 (.bi .add t39 t40),oM 6 t41]))))) (rg 24 [oP 42 (.bi .add t24 (vI 1)),oM 24 t42])))))
def zaa_q:IQ:=(.seq (rg 3 [oP 2 (.mv (vI 0)),oP 3 (.mv vF)]) (.seq (rg 5 [oM 10 t0,oP 11 (.call 71 [t10,(vI 0)]),oM 9 t11,oP 12 (.extract t9 0),oP 13 (.extract t9 1),oP 4 (.alloc 127 [.bool false,.string ⟨#[]⟩,.string ⟨#[]⟩,.int .i64 0,.bool false,.bool false,.string ⟨#[]⟩]),oN (.store 7 t4 t12),oM 5 t13]) (.seq (.seq (rg 20 [oM 14 t5,oP 15 (.un .not t14),oM 16 t15,oE 17 (.faddr 4 t4) 16,oE 18 (.load none t17) 16,oE 19 (.un .not t18) 16,oP 20 (.pick t16 vT t19)]) (.cond t20 (.seq (rg 3 [oP 2 (.mv (vI 0)),oP 3 (.mv vF)]) (.cn [2,3] .ret)) .skip)) (.seq (rg 6 [oP 6 (.mv (.v (.int .u64 0)))]) (.seq (.seq (rg 24 [oP 21 (.faddr 1 t4),oP 22 (.load none t21),oP 23 (.lenS t22),oP 24 (.mv (vI 0))]) (.block 0 (.cn [4,6,23,24] (.sub 0 zaa_b0)))) (.seq (.seq (rg 49 [oP 43 (.faddr 0 t4),oP 44 (.load none t43),oP 45 (.un .not t44),oM 46 t45,oF 47 (.mv t6) 46,oF 48 (.bi .eql t47 (.v (.int .u64 9223372036854775808))) 46,oP 49 (.pick t46 t48 vF)]) (.cond t49 (.seq (rg 3 [oP 2 (.mv (vI 0)),oP 3 (.mv vF)]) (.cn [2,3] .ret)) .skip)) (.seq (.seq (rg 51 [oP 50 (.faddr 0 t4),oP 51 (.load none t50)]) (.cond t51 (rg 6 [oM 52 t6,oP 53 (.un .neg t52),oM 6 t53]) .skip)) (.seq (rg 3 [oM 54 t6,oP 55 (.conv true .i64 t54),oM 2 t55,oP 3 (.mv vT)]) (.cn [2,3] .ret)))))))))
theorem zaa_chk:chk Tryd.prog 61 [55]=some (zaa_q.erase,[.tmp 2,.tmp 3],56):=by kernel_rfl
def qDk (v x23_ x24_:Int) (n_whole:BA):Option ((Int × Int) ⊕ ((Int × Bool) ⊕ Int)) :=
 bif decide (x24_<x23_) then (
  gd (0≤x24_∧x24_<n_whole.size) <|
  gd (0≤(((9223372036854775808:Int) - ((((bAt n_whole x24_) - (48:Int)) % 256) % 18446744073709551616)) % 18446744073709551616)∧(((9223372036854775808:Int) - ((((bAt n_whole x24_) - (48:Int)) % 256) % 18446744073709551616)) % 18446744073709551616)≤18446744073709551615∧1≤(10:Int)) <|
  bif decide (((((9223372036854775808:Int) - ((((bAt n_whole x24_) - (48:Int)) % 256) % 18446744073709551616)) % 18446744073709551616) / (10:Int))<v) then (
   some (.inr (.inl ((0:Int),false))))
  else (
   gd (qAj (x24_+(1:Int))) <|
   some (.inl ((((((10:Int)*v) % 18446744073709551616)+((((bAt n_whole x24_) - (48:Int)) % 256) % 18446744073709551616)) % 18446744073709551616),(x24_+(1:Int))))))
 else (
  some (.inr (.inr v)))
def zaa_p0 (v x23_ x24_:Int) (n_whole:BA):Option ((Int × Bool) ⊕ Int) :=
 qBh (fun x:(Int × Int)=>qDk x.1 x23_ x.2 n_whole) (v,x24_)
def zaa_s (text:BA):Option (Int × Bool) :=
 (zab_s text (0:Int)).bind fun r3 =>
 bif ((!r3.2) || (!r3.1.plain)) then (
  some ((0:Int),false))
 else (
  (zaa_p0 (0:Int) (r3.1.whole.size:Int) (0:Int) r3.1.whole).bind fun o4=>(Sum.elim (fun (o4_0:Int × Bool) =>
   some (o4_0.1,o4_0.2)) (fun (o4_1:Int) =>
   bif ((!r3.1.minus) && (decide (o4_1=(9223372036854775808:Int)))) then (
    some ((0:Int),false))
   else (
    bif r3.1.minus then (
     some (w64 ((0 - o4_1) % 18446744073709551616),true))
    else (
     some (w64 o4_1,true))))) o4)
def zaa_G:Nat→Option CQ:=tblQ [(71,zab_w)]
theorem zaa_Gok:∀f C,zaa_G f=some C→qAe Tryd.prog f C:=qAi ⟨zab_ok,tV⟩
def zaa_d0:=(dQS (qAb (dSO 4 (dH 0 0)) (qAb (dSO 6 (dI .u64)) (qAb (dSO 23 dZ) (qAb (dSO 24 dZ) dNil)))) (qAb zDGC1 dNil))
def zaa_l0:SubQ:=mkL zaa_d0 (fun x=>zaa_p0 x.1.2.1 x.1.2.2.1 x.1.2.2.2.1 x.2.1.2.1) fun x r R kn kx kr=>(Sum.elim (fun (r_0:Int × Bool)=>kr ⟨[sL 2 (.vI r_0.1),sL 3 (.vB r_0.2)],[],[]⟩) (fun (r_1:Int)=>kx 0 ⟨[sL 4 (.hd 0 0),(6,[],.c (.o (.val (.int .u64 r_1))))],[],[.cells 127 [.vB x.2.1.1,.vS x.2.1.2.1,.vS x.2.1.2.2.1,.vI x.2.1.2.2.2.1,.vB x.2.1.2.2.2.2.1,.vB x.2.1.2.2.2.2.2.1,.vS x.2.1.2.2.2.2.2.2.1]]⟩)) r
def zaa_L:Nat→SubQ:=tblL [(0,zaa_l0)]
theorem zaa_sub0:qBr zaa_L zaa_G 0 25 56 0 zaa_b0:=qAu (show zaa_L 0=zaa_l0 from by kernel_rfl) fun x R kn kx kr=>qAs (step:=fun y=>qDk y.1 x.1.2.2.1 y.2 x.2.1.2.1) (enc:=fun (y:Int × Int)=>zaa_d0.e ((x.1.1,y.1,x.1.2.2.1,y.2,x.1.2.2.2.2),x.2)) (fun y=>by kernel_rfl) (fun y ki=>by simp only [qDk,-eq_self,qAd,qAg,obA,obS,slL,slR,qAc]; kernel_rfl) (x.1.2.1,x.1.2.2.2.1)
theorem zaa_subs:qAo zaa_L zaa_G 0 25 56 zaa_q:=qAk (show qAp zaa_L zaa_G 0 25 56 [(0,zaa_b0)] from ⟨zaa_sub0,tV⟩)
def zaa_da:=(qAb (dVC (dCO dS)) dNil)
def zaa_db:=(dNil:Dec Unit (List SB))
def zaa_c:CS:=mkC zaa_da zaa_db (fun x y=>zaa_s x.1) (fun x y r=>.tup [.o (.vI r.1),.o (.vB r.2)]) fun x y r=>[]
theorem zaa_val:qAl Tryd.prog 61 zaa_c:=qAm zaa_chk 25 zaa_Gok 0 (fun x=>Nat.le_of_ble_eq_true rfl) (fun y=>rfl) zaa_subs fun x y=>by
 simp only [zaa_s,-eq_self,qAd,qAg,obA,obS,slL,slR,qAc];kernel_rfl
def zaa_w:CQ:=qC3 [] zaa_c
theorem zaa_ok:qAe Tryd.prog 61 zaa_w:=qA2 zaa_val
end
end Go.Proofs.YtnifdcmeffnpaaaDoor
