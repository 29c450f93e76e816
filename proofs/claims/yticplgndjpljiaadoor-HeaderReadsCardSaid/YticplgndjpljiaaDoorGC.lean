/-
  Functions as the engine reads them (printed by gen.py).
-/
import Derived.Test.YticplgndjpljiaaDoorEngO
import Derived.Test.YticplgndjpljiaaDoorProg
namespace Go.Proofs.YticplgndjpljiaaDoor
open Go.Eng
set_option linter.unusedVariables false
set_option linter.unusedSimpArgs false
set_option maxRecDepth 100000
noncomputable section
structure decimal_number where
 minus:Bool
 whole:BA
 digits:BA
 point:Int
 plain:Bool
 down:Bool
 exp_:BA
structure qHv where
 minus:Bool
 digits:(List Int)
 off:Int
 down:Bool
 exp_:(List Int)
 plain:Bool
 text:BA
def zai_q:IQ:=(.seq (rg 4 [oP 4 (.mv vF)]) (.seq (rg 4 [oM 5 t0,oP 6 (.lenS t5),oM 7 t1,oP 8 (.lenS t7),oP 9 (.bi .geq t6 t8),oM 10 t9,oF 11 (.mv t0) 10,oF 12 (.mv t1) 10,oF 13 (.lenS t12) 10,oF 14 (.sub none t11 none (some t13)) 10,oF 15 (.mv t1) 10,oF 16 (.bi .eql t14 t15) 10,oP 17 (.pick t10 t16 vF),oM 4 t17]) (.cn [4] .ret)))
theorem zai_chk:chk Tryd.prog 151 []=some (zai_q.erase,[.tmp 4],18):=by kernel_rfl
def zai_s (s prefix_:BA):Option Bool :=
 gd ((decide ((prefix_.size:Int)≤(s.size:Int)))=true→0≤(0:Int)∧(0:Int)≤(prefix_.size:Int)∧(prefix_.size:Int)≤s.size) <|
 some ((decide ((prefix_.size:Int)≤(s.size:Int))) && (decide ((s.extract 0 (Int.toNat (prefix_.size:Int)))=prefix_)))
def zai_G:Nat→Option CQ:=tblQ []
theorem zai_Gok:∀f C,zai_G f=some C→qAf Tryd.prog f C:=fun f C h=>by cases h
def zai_L:Nat→SubQ:=tblL []
theorem zai_subs:qAp zai_L zai_G 0 5 18 zai_q:=qAk (show qAr zai_L zai_G 0 5 18 [] from tV)
def zai_da:=(qAb (dVC (dCO dS)) (qAb (dVC (dCO dS)) dNil))
def zai_db:=(dNil:Dec Unit (List SB))
def zai_c:CS:=mkC zai_da zai_db (fun x y=>zai_s x.1 x.2.1) (fun x y r=>.c (.o (.vB r))) fun x y r=>[]
theorem zai_val:qAl Tryd.prog 151 zai_c:=qAn zai_chk 5 zai_Gok 0 (fun x=>Nat.le_of_ble_eq_true rfl) (fun y=>rfl) zai_subs fun x y=>by
 simp only [zai_s,-eq_self,qAc,qAg,obA,obS,slL,slR,qAd];kernel_rfl
def zai_w:CQ:=qDk [] zai_c
theorem zai_ok:qAf Tryd.prog 151 zai_w:=qAu zai_val
def zah_q:IQ:=(.seq (rg 5 [oP 4 (.mv (.v (.string ⟨#[]⟩))),oP 5 (.mv vF)]) (.seq (.seq (rg 9 [oM 6 t0,oM 7 t1,oP 8 (.call 151 [t6,t7]),oP 9 (.un .not t8)]) (.cond t9 (.seq (rg 5 [oM 10 t0,oM 4 t10,oP 5 (.mv vF)]) (.cn [4,5] .ret)) .skip)) (.seq (rg 5 [oM 11 t0,oM 12 t1,oP 13 (.lenS t12),oP 14 (.sub none t11 (some t13) none),oM 4 t14,oP 5 (.mv vT)]) (.cn [4,5] .ret))))
theorem zah_chk:chk Tryd.prog 142 []=some (zah_q.erase,[.tmp 4,.tmp 5],15):=by kernel_rfl
def zah_s (s prefix_:BA):Option (BA × Bool) :=
 (zai_s s prefix_).bind fun r1 =>
 bif (!r1) then (
  some (s,false))
 else (
  gd (0≤(prefix_.size:Int)∧(prefix_.size:Int)≤(s.size:Int)∧(s.size:Int)≤s.size) <|
  some ((s.extract (Int.toNat (prefix_.size:Int)) s.size),true))
def zah_G:Nat→Option CQ:=tblQ [(151,zai_w)]
theorem zah_Gok:∀f C,zah_G f=some C→qAf Tryd.prog f C:=qAj ⟨zai_ok,tV⟩
def zah_L:Nat→SubQ:=tblL []
theorem zah_subs:qAp zah_L zah_G 0 6 15 zah_q:=qAk (show qAr zah_L zah_G 0 6 15 [] from tV)
def zah_da:=(qAb (dVC (dCO dS)) (qAb (dVC (dCO dS)) dNil))
def zah_db:=(dNil:Dec Unit (List SB))
def zah_c:CS:=mkC zah_da zah_db (fun x y=>zah_s x.1 x.2.1) (fun x y r=>.tup [.o (.vS r.1),.o (.vB r.2)]) fun x y r=>[]
theorem zah_val:qAl Tryd.prog 142 zah_c:=qAn zah_chk 6 zah_Gok 0 (fun x=>Nat.le_of_ble_eq_true rfl) (fun y=>rfl) zah_subs fun x y=>by
 simp only [zah_s,-eq_self,qAc,qAg,obA,obS,slL,slR,qAd];kernel_rfl
def zah_w:CQ:=qDk [] zah_c
theorem zah_ok:qAf Tryd.prog 142 zah_w:=qAu zah_val
def zck_q:IQ:=(.seq (rg 5 [oP 4 (.mv (.v (.string ⟨#[]⟩))),oP 5 (.mv vF)]) (.seq (rg 5 [oM 6 t0,oM 7 t1,oP 8 (.call 142 [t6,t7]),oP 9 (.extract t8 0),oP 10 (.extract t8 1),oM 4 t9,oM 5 t10]) (.cn [4,5] .ret)))
theorem zck_chk:chk Tryd.prog 133 []=some (zck_q.erase,[.tmp 4,.tmp 5],11):=by kernel_rfl
def zck_s (s prefix_:BA):Option (BA × Bool) :=
 (zah_s s prefix_).bind fun r1 =>
 some (r1.1,r1.2)
def zck_G:Nat→Option CQ:=tblQ [(142,zah_w)]
theorem zck_Gok:∀f C,zck_G f=some C→qAf Tryd.prog f C:=qAj ⟨zah_ok,tV⟩
def zck_L:Nat→SubQ:=tblL []
theorem zck_subs:qAp zck_L zck_G 0 6 11 zck_q:=qAk (show qAr zck_L zck_G 0 6 11 [] from tV)
def zck_da:=(qAb (dVC (dCO dS)) (qAb (dVC (dCO dS)) dNil))
def zck_db:=(dNil:Dec Unit (List SB))
def zck_c:CS:=mkC zck_da zck_db (fun x y=>zck_s x.1 x.2.1) (fun x y r=>.tup [.o (.vS r.1),.o (.vB r.2)]) fun x y r=>[]
theorem zck_val:qAl Tryd.prog 133 zck_c:=qAn zck_chk 6 zck_Gok 0 (fun x=>Nat.le_of_ble_eq_true rfl) (fun y=>rfl) zck_subs fun x y=>by
 simp only [zck_s,-eq_self,qAc,qAg,obA,obS,slL,slR,qAd];kernel_rfl
def zck_w:CQ:=qDk [] zck_c
theorem zck_ok:qAf Tryd.prog 133 zck_w:=qAu zck_val
def zac_b0:IQ:=(.loop [0,3] (.seq (.seq (rg 19 [oM 4 t3,oM 5 t0,oP 6 (.lenS t5),oP 7 (.bi .lss t4 t6),oM 8 t7,oF 9 (.mv t0) 8,oF 10 (.mv t3) 8,oF 11 (.index t9 t10) 8,oF 12 (.bi .geq t11 (vC 48)) 8,oP 13 (.pick t8 t12 vF),oM 14 t13,oF 15 (.mv t0) 14,oF 16 (.mv t3) 14,oF 17 (.index t15 t16) 14,oF 18 (.bi .leq t17 (vC 57)) 14,oP 19 (.pick t14 t18 vF)]) (.cond t19 .skip (.cn [3] (.exit 0)))) (.block 1 (rg 3 [oM 20 t3,oP 21 (.bi .add t20 (vI 1)),oM 3 t21]))))
def zac_q:IQ:=(.seq (rg 2 [oP 2 (.mv (vI 0))]) (.seq (rg 3 [oP 3 (.mv (vI 0))]) (.seq (.block 0 (.cn [0,3] (.sub 0 zac_b0))) (.seq (rg 2 [oM 22 t3,oM 2 t22]) (.cn [2] .ret)))))
theorem zac_chk:chk Tryd.prog 134 []=some (zac_q.erase,[.tmp 2],23):=by kernel_rfl
def zac_p0_step (s:BA) (n:Int):Option (Int ⊕ Int) :=
 gd ((decide (n<(s.size:Int)))=true→0≤n∧n<s.size) <|
 gd (((decide (n<(s.size:Int))) && (decide ((48:Int)≤(bAt s n))))=true→0≤n∧n<s.size) <|
 bif (((decide (n<(s.size:Int))) && (decide ((48:Int)≤(bAt s n)))) && (decide ((bAt s n)≤(57:Int)))) then (
  gd (qAe (n+(1:Int))) <|
  some (.inl (n+(1:Int))))
 else (
  some (.inr n))
def zac_p0 (s:BA) (n:Int):Option Int :=
 qA6 (fun x:Int=>zac_p0_step s x) n
def zac_s (s:BA):Option Int :=
 (zac_p0 s (0:Int)).bind fun o1 =>
 some o1
def zac_G:Nat→Option CQ:=tblQ []
theorem zac_Gok:∀f C,zac_G f=some C→qAf Tryd.prog f C:=fun f C h=>by cases h
def zac_d0:=(dQS (qAb (dSO 0 dS) (qAb (dSO 3 dZ) dNil)) dNil)
def zac_l0:SubQ:=mkL zac_d0 (fun x=>zac_p0 x.1.1 x.1.2.1) fun x r R kn kx kr=>kx 0 ⟨[sL 3 (.vI r)],[],[]⟩
def zac_L:Nat→SubQ:=tblL [(0,zac_l0)]
theorem zac_sub0:qBe zac_L zac_G 0 4 23 0 zac_b0:=qAq (show zac_L 0=zac_l0 from by kernel_rfl) fun x R kn kx kr=>qAt (step:=fun y=>zac_p0_step x.1.1 y) (enc:=fun (y:Int)=>zac_d0.e ((x.1.1,y,x.1.2.2),x.2)) (fun y=>by kernel_rfl) (fun y ki=>by simp only [zac_p0_step,-eq_self,qAc,qAg,obA,obS,slL,slR,qAd]; kernel_rfl) x.1.2.1
theorem zac_subs:qAp zac_L zac_G 0 4 23 zac_q:=qAk (show qAr zac_L zac_G 0 4 23 [(0,zac_b0)] from ⟨zac_sub0,tV⟩)
def zac_da:=(qAb (dVC (dCO dS)) dNil)
def zac_db:=(dNil:Dec Unit (List SB))
def zac_c:CS:=mkC zac_da zac_db (fun x y=>zac_s x.1) (fun x y r=>.c (.o (.vI r))) fun x y r=>[]
theorem zac_val:qAl Tryd.prog 134 zac_c:=qAn zac_chk 4 zac_Gok 0 (fun x=>Nat.le_of_ble_eq_true rfl) (fun y=>rfl) zac_subs fun x y=>by
 simp only [zac_s,-eq_self,qAc,qAg,obA,obS,slL,slR,qAd];kernel_rfl
def zac_w:CQ:=qDk [] zac_c
theorem zac_ok:qAf Tryd.prog 134 zac_w:=qAu zac_val
def zcn_b0:IQ:=(.loop [0,1] (.seq (.seq (rg 13 [oM 5 t0,oP 6 (.lenS t5),oP 7 (.bi .gtr t6 (vI 0)),oM 8 t7,oF 9 (.mv t0) 8,oF 10 (.index t9 (vI 0)) 8,oF 11 (.mv t1) 8,oF 12 (.bi .eql t10 t11) 8,oP 13 (.pick t8 t12 vF)]) (.cond t13 .skip (.cn [0] (.exit 0)))) (.block 1 (rg 0 [oM 14 t0,oP 15 (.sub none t14 (some (vI 1)) none),oM 0 t15]))))
def zcn_q:IQ:=(.seq (rg 4 [oP 4 (.mv (.v (.string ⟨#[]⟩)))]) (.seq (.block 0 (.cn [0,1] (.sub 0 zcn_b0))) (.seq (rg 4 [oM 16 t0,oM 4 t16]) (.cn [4] .ret))))
theorem zcn_chk:chk Tryd.prog 143 []=some (zcn_q.erase,[.tmp 4],17):=by kernel_rfl
def zcn_p0_step (s:BA) (c:Int):Option (BA ⊕ BA) :=
 gd ((decide ((0:Int)<(s.size:Int)))=true→0≤(0:Int)∧(0:Int)<s.size) <|
 bif ((decide ((0:Int)<(s.size:Int))) && (decide ((bAt s (0:Int))=c))) then (
  gd (0≤(1:Int)∧(1:Int)≤(s.size:Int)∧(s.size:Int)≤s.size) <|
  some (.inl (s.extract 1 s.size)))
 else (
  some (.inr s))
def zcn_p0 (s:BA) (c:Int):Option BA :=
 qA6 (fun x:BA=>zcn_p0_step x c) s
def zcn_s (s:BA) (c:Int):Option BA :=
 (zcn_p0 s c).bind fun o1 =>
 some o1
def zcn_G:Nat→Option CQ:=tblQ []
theorem zcn_Gok:∀f C,zcn_G f=some C→qAf Tryd.prog f C:=fun f C h=>by cases h
def zcn_d0:=(dQS (qAb (dSO 0 dS) (qAb (dSO 1 (dI .u8)) dNil)) dNil)
def zcn_l0:SubQ:=mkL zcn_d0 (fun x=>zcn_p0 x.1.1 x.1.2.1) fun x r R kn kx kr=>kx 0 ⟨[sL 0 (.vS r)],[],[]⟩
def zcn_L:Nat→SubQ:=tblL [(0,zcn_l0)]
theorem zcn_sub0:qBe zcn_L zcn_G 0 5 17 0 zcn_b0:=qAq (show zcn_L 0=zcn_l0 from by kernel_rfl) fun x R kn kx kr=>qAt (step:=fun y=>zcn_p0_step y x.1.2.1) (enc:=fun (y:BA)=>zcn_d0.e ((y,x.1.2),x.2)) (fun y=>by kernel_rfl) (fun y ki=>by simp only [zcn_p0_step,-eq_self,qAc,qAg,obA,obS,slL,slR,qAd]; kernel_rfl) x.1.1
theorem zcn_subs:qAp zcn_L zcn_G 0 5 17 zcn_q:=qAk (show qAr zcn_L zcn_G 0 5 17 [(0,zcn_b0)] from ⟨zcn_sub0,tV⟩)
def zcn_da:=(qAb (dVC (dCO dS)) (qAb (dVC (dCO (dI .u8))) dNil))
def zcn_db:=(dNil:Dec Unit (List SB))
def zcn_c:CS:=mkC zcn_da zcn_db (fun x y=>zcn_s x.1 x.2.1) (fun x y r=>.c (.o (.vS r))) fun x y r=>[]
theorem zcn_val:qAl Tryd.prog 143 zcn_c:=qAn zcn_chk 5 zcn_Gok 0 (fun x=>Nat.le_of_ble_eq_true rfl) (fun y=>rfl) zcn_subs fun x y=>by
 simp only [zcn_s,-eq_self,qAc,qAg,obA,obS,slL,slR,qAd];kernel_rfl
def zcn_w:CQ:=qDk [] zcn_c
theorem zcn_ok:qAf Tryd.prog 143 zcn_w:=qAu zcn_val
def zcl_q:IQ:=(.seq (rg 4 [oP 4 (.mv (.v (.string ⟨#[]⟩)))]) (.seq (.seq (rg 12 [oM 7 t0,oP 8 (.bi .eql t7 (.v (.string ⟨#[]⟩))),oM 9 t8,oE 10 (.mv t1) 9,oE 11 (.bi .eql t10 (.v (.string ⟨#[]⟩))) 9,oP 12 (.pick t9 vT t11)]) (.cond t12 (.seq (rg 4 [oM 13 t0,oM 4 t13]) (.cn [4] .ret)) .skip)) (.seq (.seq (rg 21 [oM 14 t1,oP 15 (.lenS t14),oP 16 (.bi .eql t15 (vI 1)),oM 17 t16,oF 18 (.mv t1) 17,oF 19 (.index t18 (vI 0)) 17,oF 20 (.bi .lss t19 (vC 128)) 17,oP 21 (.pick t17 t20 vF)]) (.cond t21 (.seq (rg 4 [oM 22 t0,oM 23 t1,oP 24 (.index t23 (vI 0)),oP 25 (.call 143 [t22,t24]),oM 4 t25]) (.cn [4] .ret)) .skip)) (.seq (.seq (rg 6 [oM 27 t1,oP 28 (.call 144 [t27]),oM 26 t28,oP 29 (.extract t26 0),oP 30 (.extract t26 1),oP 5 (.alloc 197 [.bool false,.bool false,.bool false,.bool false,.bool false,.bool false,.bool false,.bool false,.bool false,.bool false,.bool false,.bool false,.bool false,.bool false,.bool false,.bool false,.bool false,.bool false,.bool false,.bool false,.bool false,.bool false,.bool false,.bool false,.bool false,.bool false,.bool false,.bool false,.bool false,.bool false,.bool false,.bool false,.bool false,.bool false,.bool false,.bool false,.bool false,.bool false,.bool false,.bool false,.bool false,.bool false,.bool false,.bool false,.bool false,.bool false,.bool false,.bool false,.bool false,.bool false,.bool false,.bool false,.bool false,.bool false,.bool false,.bool false,.bool false,.bool false,.bool false,.bool false,.bool false,.bool false,.bool false,.bool false,.bool false,.bool false,.bool false,.bool false,.bool false,.bool false,.bool false,.bool false,.bool false,.bool false,.bool false,.bool false,.bool false,.bool false,.bool false,.bool false,.bool false,.bool false,.bool false,.bool false,.bool false,.bool false,.bool false,.bool false,.bool false,.bool false,.bool false,.bool false,.bool false,.bool false,.bool false,.bool false,.bool false,.bool false,.bool false,.bool false,.bool false,.bool false,.bool false,.bool false,.bool false,.bool false,.bool false,.bool false,.bool false,.bool false,.bool false,.bool false,.bool false,.bool false,.bool false,.bool false,.bool false,.bool false,.bool false,.bool false,.bool false,.bool false,.bool false,.bool false,.bool false,.bool false,.bool false,.bool false,.bool false,.bool false,.bool false,.bool false,.bool false,.bool false,.bool false,.bool false,.bool false,.bool false,.bool false,.bool false,.bool false,.bool false,.bool false,.bool false,.bool false,.bool false,.bool false,.bool false,.bool false,.bool false,.bool false,.bool false,.bool false,.bool false,.bool false,.bool false,.bool false,.bool false,.bool false,.bool false,.bool false,.bool false,.bool false,.bool false,.bool false,.bool false,.bool false,.bool false,.bool false,.bool false,.bool false,.bool false,.bool false,.bool false,.bool false,.bool false,.bool false,.bool false,.bool false,.bool false,.bool false,.bool false,.bool false,.bool false,.bool false,.bool false,.bool false,.bool false,.bool false,.bool false,.bool false,.bool false,.bool false,.bool false,.bool false,.bool false,.bool false,.bool false,.bool false,.bool false,.bool false,.bool false,.bool false,.bool false,.bool false,.bool false,.bool false,.bool false,.bool false,.bool false,.bool false,.bool false,.bool false,.bool false,.bool false,.bool false,.bool false,.bool false,.bool false,.bool false,.bool false,.bool false,.bool false,.bool false,.bool false,.bool false,.bool false,.bool false,.bool false,.bool false,.bool false,.bool false,.bool false,.bool false,.bool false,.bool false,.bool false,.bool false,.bool false,.bool false,.bool false,.bool false,.bool false,.bool false,.bool false,.bool false,.bool false,.bool false,.bool false,.bool false,.bool false,.bool false,.bool false,.bool false,.bool false,.bool false]),oN (.store 256 t5 t29),oM 6 t30]) (.seq (rg 31 [oM 31 t6]) (.cond t31 (.seq (rg 4 [oM 32 t0,oP 33 (.call 145 [t32,t5]),oM 4 t33]) (.cn [4] .ret)) .skip))) (.seq (rg 4 [oM 34 t0,oM 35 t1,oP 36 (.call 146 [t34,t35]),oM 4 t36]) (.cn [4] .ret))))))
theorem zcl_chk:chk Tryd.prog 135 []=some (zcl_q.erase,[.tmp 4],37):=by kernel_rfl
def zcl_s (s cutset:BA):Option BA :=
 bif ((decide (s=(⟨#[]⟩:BA))) || (decide (cutset=(⟨#[]⟩:BA)))) then (
  some s)
 else (
  gd ((decide ((cutset.size:Int)=(1:Int)))=true→0≤(0:Int)∧(0:Int)<cutset.size) <|
  bif ((decide ((cutset.size:Int)=(1:Int))) && (decide ((bAt cutset (0:Int))<(128:Int)))) then (
   gd (0≤(0:Int)∧(0:Int)<cutset.size) <|
   (zcn_s s (bAt cutset (0:Int))).bind fun r1 =>
   some r1)
  else (
   none))
def zcl_G:Nat→Option CQ:=tblQ [(143,zcn_w)]
theorem zcl_Gok:∀f C,zcl_G f=some C→qAf Tryd.prog f C:=qAj ⟨zcn_ok,tV⟩
def zcl_L:Nat→SubQ:=tblL []
theorem zcl_subs:qAp zcl_L zcl_G 0 7 37 zcl_q:=qAk (show qAr zcl_L zcl_G 0 7 37 [] from tV)
def zcl_da:=(qAb (dVC (dCO dS)) (qAb (dVC (dCO dS)) dNil))
def zcl_db:=(dNil:Dec Unit (List SB))
def zcl_c:CS:=mkC zcl_da zcl_db (fun x y=>zcl_s x.1 x.2.1) (fun x y r=>.c (.o (.vS r))) fun x y r=>[]
theorem zcl_val:qAl Tryd.prog 135 zcl_c:=qAn zcl_chk 7 zcl_Gok 0 (fun x=>Nat.le_of_ble_eq_true rfl) (fun y=>rfl) zcl_subs fun x y=>by
 simp only [zcl_s,-eq_self,qAc,qAg,obA,obS,slL,slR,qAd];kernel_rfl
def zcl_w:CQ:=qDk [] zcl_c
theorem zcl_ok:qAf Tryd.prog 135 zcl_w:=qAu zcl_val
def zco_b0:IQ:=(.loop [0,1] (.seq (.seq (rg 16 [oM 5 t0,oP 6 (.lenS t5),oP 7 (.bi .gtr t6 (vI 0)),oM 8 t7,oF 9 (.mv t0) 8,oF 10 (.mv t0) 8,oF 11 (.lenS t10) 8,oF 12 (.bi .sub t11 (vI 1)) 8,oF 13 (.index t9 t12) 8,oF 14 (.mv t1) 8,oF 15 (.bi .eql t13 t14) 8,oP 16 (.pick t8 t15 vF)]) (.cond t16 .skip (.cn [0] (.exit 0)))) (.block 1 (rg 0 [oM 17 t0,oM 18 t0,oP 19 (.lenS t18),oP 20 (.bi .sub t19 (vI 1)),oP 21 (.sub none t17 none (some t20)),oM 0 t21]))))
def zco_q:IQ:=(.seq (rg 4 [oP 4 (.mv (.v (.string ⟨#[]⟩)))]) (.seq (.block 0 (.cn [0,1] (.sub 0 zco_b0))) (.seq (rg 4 [oM 22 t0,oM 4 t22]) (.cn [4] .ret))))
theorem zco_chk:chk Tryd.prog 147 []=some (zco_q.erase,[.tmp 4],23):=by kernel_rfl
def zco_p0_step (s:BA) (c:Int):Option (BA ⊕ BA) :=
 gd ((decide ((0:Int)<(s.size:Int)))=true→qAe ((s.size:Int) - (1:Int))) <|
 gd ((decide ((0:Int)<(s.size:Int)))=true→0≤((s.size:Int) - (1:Int))∧((s.size:Int) - (1:Int))<s.size) <|
 bif ((decide ((0:Int)<(s.size:Int))) && (decide ((bAt s ((s.size:Int) - (1:Int)))=c))) then (
  gd (qAe ((s.size:Int) - (1:Int))) <|
  gd (0≤(0:Int)∧(0:Int)≤((s.size:Int) - (1:Int))∧((s.size:Int) - (1:Int))≤s.size) <|
  some (.inl (s.extract 0 (Int.toNat ((s.size:Int) - (1:Int))))))
 else (
  some (.inr s))
def zco_p0 (s:BA) (c:Int):Option BA :=
 qA6 (fun x:BA=>zco_p0_step x c) s
def zco_s (s:BA) (c:Int):Option BA :=
 (zco_p0 s c).bind fun o1 =>
 some o1
def zco_G:Nat→Option CQ:=tblQ []
theorem zco_Gok:∀f C,zco_G f=some C→qAf Tryd.prog f C:=fun f C h=>by cases h
def zco_d0:=(dQS (qAb (dSO 0 dS) (qAb (dSO 1 (dI .u8)) dNil)) dNil)
def zco_l0:SubQ:=mkL zco_d0 (fun x=>zco_p0 x.1.1 x.1.2.1) fun x r R kn kx kr=>kx 0 ⟨[sL 0 (.vS r)],[],[]⟩
def zco_L:Nat→SubQ:=tblL [(0,zco_l0)]
theorem zco_sub0:qBe zco_L zco_G 0 5 23 0 zco_b0:=qAq (show zco_L 0=zco_l0 from by kernel_rfl) fun x R kn kx kr=>qAt (step:=fun y=>zco_p0_step y x.1.2.1) (enc:=fun (y:BA)=>zco_d0.e ((y,x.1.2),x.2)) (fun y=>by kernel_rfl) (fun y ki=>by simp only [zco_p0_step,-eq_self,qAc,qAg,obA,obS,slL,slR,qAd]; kernel_rfl) x.1.1
theorem zco_subs:qAp zco_L zco_G 0 5 23 zco_q:=qAk (show qAr zco_L zco_G 0 5 23 [(0,zco_b0)] from ⟨zco_sub0,tV⟩)
def zco_da:=(qAb (dVC (dCO dS)) (qAb (dVC (dCO (dI .u8))) dNil))
def zco_db:=(dNil:Dec Unit (List SB))
def zco_c:CS:=mkC zco_da zco_db (fun x y=>zco_s x.1 x.2.1) (fun x y r=>.c (.o (.vS r))) fun x y r=>[]
theorem zco_val:qAl Tryd.prog 147 zco_c:=qAn zco_chk 5 zco_Gok 0 (fun x=>Nat.le_of_ble_eq_true rfl) (fun y=>rfl) zco_subs fun x y=>by
 simp only [zco_s,-eq_self,qAc,qAg,obA,obS,slL,slR,qAd];kernel_rfl
def zco_w:CQ:=qDk [] zco_c
theorem zco_ok:qAf Tryd.prog 147 zco_w:=qAu zco_val
def zcm_q:IQ:=(.seq (rg 4 [oP 4 (.mv (.v (.string ⟨#[]⟩)))]) (.seq (.seq (rg 12 [oM 7 t0,oP 8 (.bi .eql t7 (.v (.string ⟨#[]⟩))),oM 9 t8,oE 10 (.mv t1) 9,oE 11 (.bi .eql t10 (.v (.string ⟨#[]⟩))) 9,oP 12 (.pick t9 vT t11)]) (.cond t12 (.seq (rg 4 [oM 13 t0,oM 4 t13]) (.cn [4] .ret)) .skip)) (.seq (.seq (rg 21 [oM 14 t1,oP 15 (.lenS t14),oP 16 (.bi .eql t15 (vI 1)),oM 17 t16,oF 18 (.mv t1) 17,oF 19 (.index t18 (vI 0)) 17,oF 20 (.bi .lss t19 (vC 128)) 17,oP 21 (.pick t17 t20 vF)]) (.cond t21 (.seq (rg 4 [oM 22 t0,oM 23 t1,oP 24 (.index t23 (vI 0)),oP 25 (.call 147 [t22,t24]),oM 4 t25]) (.cn [4] .ret)) .skip)) (.seq (.seq (rg 6 [oM 27 t1,oP 28 (.call 144 [t27]),oM 26 t28,oP 29 (.extract t26 0),oP 30 (.extract t26 1),oP 5 (.alloc 197 [.bool false,.bool false,.bool false,.bool false,.bool false,.bool false,.bool false,.bool false,.bool false,.bool false,.bool false,.bool false,.bool false,.bool false,.bool false,.bool false,.bool false,.bool false,.bool false,.bool false,.bool false,.bool false,.bool false,.bool false,.bool false,.bool false,.bool false,.bool false,.bool false,.bool false,.bool false,.bool false,.bool false,.bool false,.bool false,.bool false,.bool false,.bool false,.bool false,.bool false,.bool false,.bool false,.bool false,.bool false,.bool false,.bool false,.bool false,.bool false,.bool false,.bool false,.bool false,.bool false,.bool false,.bool false,.bool false,.bool false,.bool false,.bool false,.bool false,.bool false,.bool false,.bool false,.bool false,.bool false,.bool false,.bool false,.bool false,.bool false,.bool false,.bool false,.bool false,.bool false,.bool false,.bool false,.bool false,.bool false,.bool false,.bool false,.bool false,.bool false,.bool false,.bool false,.bool false,.bool false,.bool false,.bool false,.bool false,.bool false,.bool false,.bool false,.bool false,.bool false,.bool false,.bool false,.bool false,.bool false,.bool false,.bool false,.bool false,.bool false,.bool false,.bool false,.bool false,.bool false,.bool false,.bool false,.bool false,.bool false,.bool false,.bool false,.bool false,.bool false,.bool false,.bool false,.bool false,.bool false,.bool false,.bool false,.bool false,.bool false,.bool false,.bool false,.bool false,.bool false,.bool false,.bool false,.bool false,.bool false,.bool false,.bool false,.bool false,.bool false,.bool false,.bool false,.bool false,.bool false,.bool false,.bool false,.bool false,.bool false,.bool false,.bool false,.bool false,.bool false,.bool false,.bool false,.bool false,.bool false,.bool false,.bool false,.bool false,.bool false,.bool false,.bool false,.bool false,.bool false,.bool false,.bool false,.bool false,.bool false,.bool false,.bool false,.bool false,.bool false,.bool false,.bool false,.bool false,.bool false,.bool false,.bool false,.bool false,.bool false,.bool false,.bool false,.bool false,.bool false,.bool false,.bool false,.bool false,.bool false,.bool false,.bool false,.bool false,.bool false,.bool false,.bool false,.bool false,.bool false,.bool false,.bool false,.bool false,.bool false,.bool false,.bool false,.bool false,.bool false,.bool false,.bool false,.bool false,.bool false,.bool false,.bool false,.bool false,.bool false,.bool false,.bool false,.bool false,.bool false,.bool false,.bool false,.bool false,.bool false,.bool false,.bool false,.bool false,.bool false,.bool false,.bool false,.bool false,.bool false,.bool false,.bool false,.bool false,.bool false,.bool false,.bool false,.bool false,.bool false,.bool false,.bool false,.bool false,.bool false,.bool false,.bool false,.bool false,.bool false,.bool false,.bool false,.bool false,.bool false,.bool false,.bool false,.bool false,.bool false,.bool false,.bool false,.bool false,.bool false,.bool false,.bool false,.bool false,.bool false,.bool false,.bool false,.bool false,.bool false]),oN (.store 256 t5 t29),oM 6 t30]) (.seq (rg 31 [oM 31 t6]) (.cond t31 (.seq (rg 4 [oM 32 t0,oP 33 (.call 148 [t32,t5]),oM 4 t33]) (.cn [4] .ret)) .skip))) (.seq (rg 4 [oM 34 t0,oM 35 t1,oP 36 (.call 149 [t34,t35]),oM 4 t36]) (.cn [4] .ret))))))
theorem zcm_chk:chk Tryd.prog 136 []=some (zcm_q.erase,[.tmp 4],37):=by kernel_rfl
def zcm_s (s cutset:BA):Option BA :=
 bif ((decide (s=(⟨#[]⟩:BA))) || (decide (cutset=(⟨#[]⟩:BA)))) then (
  some s)
 else (
  gd ((decide ((cutset.size:Int)=(1:Int)))=true→0≤(0:Int)∧(0:Int)<cutset.size) <|
  bif ((decide ((cutset.size:Int)=(1:Int))) && (decide ((bAt cutset (0:Int))<(128:Int)))) then (
   gd (0≤(0:Int)∧(0:Int)<cutset.size) <|
   (zco_s s (bAt cutset (0:Int))).bind fun r1 =>
   some r1)
  else (
   none))
def zcm_G:Nat→Option CQ:=tblQ [(147,zco_w)]
theorem zcm_Gok:∀f C,zcm_G f=some C→qAf Tryd.prog f C:=qAj ⟨zco_ok,tV⟩
def zcm_L:Nat→SubQ:=tblL []
theorem zcm_subs:qAp zcm_L zcm_G 0 7 37 zcm_q:=qAk (show qAr zcm_L zcm_G 0 7 37 [] from tV)
def zcm_da:=(qAb (dVC (dCO dS)) (qAb (dVC (dCO dS)) dNil))
def zcm_db:=(dNil:Dec Unit (List SB))
def zcm_c:CS:=mkC zcm_da zcm_db (fun x y=>zcm_s x.1 x.2.1) (fun x y r=>.c (.o (.vS r))) fun x y r=>[]
theorem zcm_val:qAl Tryd.prog 136 zcm_c:=qAn zcm_chk 7 zcm_Gok 0 (fun x=>Nat.le_of_ble_eq_true rfl) (fun y=>rfl) zcm_subs fun x y=>by
 simp only [zcm_s,-eq_self,qAc,qAg,obA,obS,slL,slR,qAd];kernel_rfl
def zcm_w:CQ:=qDk [] zcm_c
theorem zcm_ok:qAf Tryd.prog 136 zcm_w:=qAu zcm_val
def zab_b0:IQ:=(.join [] [0,4,6,7] (.seq (rg 8 [oM 29 t0,oP 30 (.call 134 [t29]),oM 8 t30]) (.seq (.seq (rg 41 [oM 31 t8,oP 32 (.bi .eql t31 (vI 0)),oM 33 t32,oE 34 (.mv t8) 33,oE 35 (.bi .gtr t34 (vI 1)) 33,oE 36 (.mv t35) 33,oF 37 (.mv t0) 36,oF 38 (.index t37 (vI 0)) 36,oF 39 (.bi .eql t38 (vC 48)) 36,oE 40 (.pick t36 t39 vF) 33,oP 41 (.pick t33 vT t40)]) (.cond t41 (.seq (rg 5 [oP 42 (.load (some 7) t6),oN (.store 7 t4 t42),oP 5 (.mv vF)]) (.cn [4,5] .ret)) .skip)) (.reg 0 (some [0,1,2,3,4,5,6,7,8]) [oM 43 t0,oM 44 t8,oP 45 (.sub none t43 none (some t44)),oM 46 t0,oM 47 t8,oP 48 (.sub none t46 (some t47) none),oP 49 (.faddr 1 t6),oN (.store 1 t49 t45),oM 0 t48]))))
def zab_b1:IQ:=(.join [] [0,4,6,7] (.seq (rg 10 [oM 51 t0,oP 52 (.call 133 [t51,(.v (.string ⟨#[46]⟩))]),oM 50 t52,oP 53 (.extract t50 0),oP 54 (.extract t50 1),oM 9 t53,oM 10 t54]) (.seq (rg 55 [oM 55 t10]) (.cond t55 (.seq (rg 11 [oM 56 t9,oP 57 (.call 134 [t56]),oM 11 t57]) (.seq (.seq (rg 59 [oM 58 t11,oP 59 (.bi .eql t58 (vI 0))]) (.cond t59 (.seq (rg 5 [oP 60 (.load (some 7) t6),oN (.store 7 t4 t60),oP 5 (.mv vF)]) (.cn [4,5] .ret)) .skip)) (.reg 0 (some [0,1,2,3,4,5,6,7,8,9]) [oM 61 t9,oM 62 t11,oP 63 (.sub none t61 none (some t62)),oM 64 t9,oM 65 t11,oP 66 (.sub none t64 (some t65) none),oP 67 (.faddr 4 t6),oN (.store 1 t67 vF),oM 7 t63,oM 0 t66]))) .skip))))
def zab_b3:IQ:=(.join [] [0,4,6,7] (.seq (.seq (rg 104 [oM 96 t0,oP 97 (.bi .eql t96 (.v (.string ⟨#[]⟩))),oM 98 t97,oE 99 (.mv t0) 98,oE 100 (.call 134 [t99]) 98,oE 101 (.mv t0) 98,oE 102 (.lenS t101) 98,oE 103 (.bi .neq t100 t102) 98,oP 104 (.pick t98 vT t103)]) (.cond t104 (.seq (rg 5 [oP 105 (.load (some 7) t6),oN (.store 7 t4 t105),oP 5 (.mv vF)]) (.cn [4,5] .ret)) .skip)) (rg 0 [oM 106 t0,oP 107 (.call 135 [t106,(.v (.string ⟨#[48]⟩))]),oP 108 (.faddr 4 t6),oN (.store 1 t108 vF),oP 109 (.faddr 6 t6),oN (.store 1 t109 t107),oP 0 (.mv (.v (.string ⟨#[]⟩)))])))
def zab_b2:IQ:=(.seq (.seq (rg 75 [oM 68 t0,oP 69 (.bi .neq t68 (.v (.string ⟨#[]⟩))),oM 70 t69,oF 71 (.mv t0) 70,oF 72 (.index t71 (vI 0)) 70,oF 73 (.bi .or t72 (vC 32)) 70,oF 74 (.bi .eql t73 (vC 101)) 70,oP 75 (.pick t70 t74 vF)]) (.cond t75 (.seq (rg 0 [oM 76 t0,oP 77 (.sub none t76 (some (vI 1)) none),oM 0 t77]) (.seq (.seq (rg 89 [oM 78 t0,oP 79 (.bi .neq t78 (.v (.string ⟨#[]⟩))),oM 80 t79,oF 81 (.mv t0) 80,oF 82 (.index t81 (vI 0)) 80,oF 83 (.bi .eql t82 (vC 43)) 80,oF 84 (.mv t83) 80,oE 85 (.mv t0) 84,oE 86 (.index t85 (vI 0)) 84,oE 87 (.bi .eql t86 (vC 45)) 84,oF 88 (.pick t84 vT t87) 80,oP 89 (.pick t80 t88 vF)]) (.cond t89 (.reg 0 (some [0,1,2,3,4,5,6,7]) [oM 90 t0,oP 91 (.index t90 (vI 0)),oP 92 (.bi .eql t91 (vC 45)),oM 93 t0,oP 94 (.sub none t93 (some (vI 1)) none),oP 95 (.faddr 5 t6),oN (.store 1 t95 t92),oM 0 t94]) .skip)) (.cn [0,4,6,7] (.sub 3 zab_b3)))) .skip)) (.cn [0,4,6,7] (.exit 0)))
def zab_b4:IQ:=(.seq (rg 12 [oP 110 (.faddr 1 t6),oP 111 (.load none t110),oM 112 t7,oP 113 (.bi .add t111 t112),oM 12 t113]) (.seq (rg 0 [oM 114 t12,oP 115 (.call 135 [t114,(.v (.string ⟨#[48]⟩))]),oP 116 (.faddr 2 t6),oN (.store 1 t116 t115)]) (.seq (rg 0 [oP 117 (.faddr 1 t6),oP 118 (.load none t117),oP 119 (.lenS t118),oM 120 t12,oP 121 (.lenS t120),oP 122 (.faddr 2 t6),oP 123 (.load none t122),oP 124 (.lenS t123),oP 125 (.bi .sub t121 t124),oP 126 (.bi .sub t119 t125),oP 127 (.faddr 3 t6),oN (.store 1 t127 t126)]) (.seq (rg 0 [oP 128 (.faddr 2 t6),oP 129 (.load none t128),oP 130 (.call 136 [t129,(.v (.string ⟨#[48]⟩))]),oP 131 (.faddr 2 t6),oN (.store 1 t131 t130)]) (.seq (.seq (rg 134 [oP 132 (.faddr 6 t6),oP 133 (.load none t132),oP 134 (.bi .eql t133 (.v (.string ⟨#[]⟩)))]) (.cond t134 (rg 0 [oP 135 (.faddr 5 t6),oN (.store 1 t135 vF)]) .skip)) (.seq (rg 5 [oP 136 (.load (some 7) t6),oM 137 t0,oP 138 (.bi .eql t137 (.v (.string ⟨#[]⟩))),oN (.store 7 t4 t136),oM 5 t138]) (.cn [4,5] .ret)))))))
def zab_q:IQ:=(.seq (rg 5 [oP 4 (.alloc 175 [.bool false,.string ⟨#[]⟩,.string ⟨#[]⟩,.int .i64 0,.bool false,.bool false,.string ⟨#[]⟩]),oP 5 (.mv vF)]) (.seq (rg 0 [oP 13 (.build [.bool false,.string ⟨#[]⟩,.string ⟨#[]⟩,.int .i64 0,.bool false,.bool false,.string ⟨#[]⟩] [(4,1,vT)]),oP 6 (.alloc 175 [.bool false,.string ⟨#[]⟩,.string ⟨#[]⟩,.int .i64 0,.bool false,.bool false,.string ⟨#[]⟩]),oN (.store 7 t6 t13)]) (.seq (rg 7 [oP 7 (.mv (.v (.string ⟨#[]⟩)))]) (.seq (.seq (rg 14 [oM 14 t1]) (.block 0 (.seq (.block 4 (.seq (.block 3 (.seq (.block 2 (.seq (.block 1 (.seq (.seq (.seq (rg 15 [oP 16 (.bi .eql t14 (vI 0)),oM 15 t16]) (.cond t15 (.exit 1) .skip)) (.seq (.seq (rg 17 [oP 18 (.bi .eql t14 (vI 1)),oM 17 t18]) (.cond t17 (.exit 2) .skip)) (.seq (.seq (rg 19 [oP 20 (.bi .eql t14 (vI 2)),oM 19 t20]) (.cond t19 (.exit 3) .skip)) (.seq (rg 21 [oP 22 (.bi .eql t14 (vI 3)),oM 21 t22]) (.cond t21 (.exit 4) .skip))))) (.exit 0))) (rg 0 [oM 24 t0,oP 25 (.call 133 [t24,(.v (.string ⟨#[45]⟩))]),oM 23 t25,oP 26 (.extract t23 0),oP 27 (.extract t23 1),oM 0 t26,oP 28 (.faddr 0 t6),oN (.store 1 t28 t27)]))) (.cn [0,4,6,7] (.sub 0 zab_b0)))) (.cn [0,4,6,7] (.sub 1 zab_b1)))) (.cn [0,4,6,7] (.sub 2 zab_b2))))) (.cn [0,4,6,7] (.sub 4 zab_b4))))))
theorem zab_chk:chk Tryd.prog 123 []=some (zab_q.erase,[.cell 4 (some 7),.tmp 5],139):=by kernel_rfl
def zab_p0 (s:BA):Option (Bool ⊕ (BA × BA)) :=
 (zac_s s).bind fun r2 =>
 gd ((decide ((1:Int)<r2))=true→(decide (r2=(0:Int)))=false→0≤(0:Int)∧(0:Int)<s.size) <|
 bif ((decide (r2=(0:Int))) || ((decide ((1:Int)<r2)) && (decide ((bAt s (0:Int))=(48:Int))))) then (
  some (.inl false))
 else (
  gd (0≤(0:Int)∧(0:Int)≤r2∧r2≤s.size) <|
  gd (0≤r2∧r2≤(s.size:Int)∧(s.size:Int)≤s.size) <|
  some (.inr ((s.extract (Int.toNat r2) s.size),(s.extract 0 (Int.toNat r2)))))
def zab_p1 (s behind:BA) (n_plain:Bool):Option (Bool ⊕ (BA × BA × Bool)) :=
 (zck_s s (⟨#[46]⟩:BA)).bind fun r4 =>
 bif r4.2 then (
  (zac_s r4.1).bind fun r5 =>
  bif decide (r5=(0:Int)) then (
   some (.inl false))
  else (
   gd (0≤(0:Int)∧(0:Int)≤r5∧r5≤r4.1.size) <|
   gd (0≤r5∧r5≤(r4.1.size:Int)∧(r4.1.size:Int)≤r4.1.size) <|
   some (.inr ((r4.1.extract (Int.toNat r5) r4.1.size),(r4.1.extract 0 (Int.toNat r5)),false))))
 else (
  some (.inr (s,behind,n_plain)))
def zab_p3 (s:BA):Option (Bool ⊕ (BA × Bool × BA)) :=
 bif decide (s=(⟨#[]⟩:BA)) then (
  some (.inl false))
 else (
  (zac_s s).bind fun r7 =>
  bif (!decide (r7=(s.size:Int))) then (
   some (.inl false))
  else (
   (zcl_s s (⟨#[48]⟩:BA)).bind fun r8 =>
   some (.inr ((⟨#[]⟩:BA),false,r8))))
def zab_p2 (s:BA) (n_plain n_down:Bool) (n_exp:BA):Option ((Bool × Bool) ⊕ (BA × Bool × Bool × BA)) :=
 gd ((!decide (s=(⟨#[]⟩:BA)))=true→0≤(0:Int)∧(0:Int)<s.size) <|
 bif ((!decide (s=(⟨#[]⟩:BA))) && (decide ((qBx .u8 (bAt s (0:Int)) (32:Int))=(101:Int)))) then (
  gd (0≤(1:Int)∧(1:Int)≤(s.size:Int)∧(s.size:Int)≤s.size) <|
  gd ((!decide ((s.extract 1 s.size)=(⟨#[]⟩:BA)))=true→0≤(0:Int)∧(0:Int)<(s.extract 1 s.size).size) <|
  gd ((decide ((bAt (s.extract 1 s.size) (0:Int))=(43:Int)))=false→(!decide ((s.extract 1 s.size)=(⟨#[]⟩:BA)))=true→0≤(0:Int)∧(0:Int)<(s.extract 1 s.size).size) <|
  bif ((!decide ((s.extract 1 s.size)=(⟨#[]⟩:BA))) && ((decide ((bAt (s.extract 1 s.size) (0:Int))=(43:Int))) || (decide ((bAt (s.extract 1 s.size) (0:Int))=(45:Int))))) then (
   gd (0≤(0:Int)∧(0:Int)<(s.extract 1 s.size).size) <|
   gd (0≤(1:Int)∧(1:Int)≤((s.extract 1 s.size).size:Int)∧((s.extract 1 s.size).size:Int)≤(s.extract 1 s.size).size) <|
   (zab_p3 ((s.extract 1 s.size).extract 1 (s.extract 1 s.size).size)).bind fun o9=>(Sum.elim (fun (o9_0:Bool) =>
    some (.inl (o9_0,decide ((bAt (s.extract 1 s.size) (0:Int))=(45:Int))))) (fun (o9_1:BA × Bool × BA) =>
    some (.inr (o9_1.1,o9_1.2.1,decide ((bAt (s.extract 1 s.size) (0:Int))=(45:Int)),o9_1.2.2)))) o9)
  else (
   (zab_p3 (s.extract 1 s.size)).bind fun o10=>(Sum.elim (fun (o10_0:Bool) =>
    some (.inl (o10_0,n_down))) (fun (o10_1:BA × Bool × BA) =>
    some (.inr (o10_1.1,o10_1.2.1,n_down,o10_1.2.2)))) o10))
 else (
  some (.inr (s,n_plain,n_down,n_exp)))
def zab_p4 (s behind n_whole:BA) (n_down:Bool) (n_exp:BA):Option (Bool × BA × Int × Bool) :=
 gd (n_whole.size+behind.size≤9223372036854775807) <|
 (zcl_s (n_whole++behind) (⟨#[48]⟩:BA)).bind fun r12 =>
 gd (qAe (((n_whole++behind).size:Int) - (r12.size:Int))) <|
 gd (qAe ((n_whole.size:Int) - (((n_whole++behind).size:Int) - (r12.size:Int)))) <|
 (zcm_s r12 (⟨#[48]⟩:BA)).bind fun r13 =>
 bif decide (n_exp=(⟨#[]⟩:BA)) then (
  some (decide (s=(⟨#[]⟩:BA)),r13,((n_whole.size:Int) - (((n_whole++behind).size:Int) - (r12.size:Int))),false))
 else (
  some (decide (s=(⟨#[]⟩:BA)),r13,((n_whole.size:Int) - (((n_whole++behind).size:Int) - (r12.size:Int))),n_down))
def zab_s (s:BA) (part:Int):Option (decimal_number × Bool) :=
 bif decide (part=(0:Int)) then (
  (zck_s s (⟨#[45]⟩:BA)).bind fun r1 =>
  (zab_p0 r1.1).bind fun o3=>(Sum.elim (fun (o3_0:Bool) =>
   some ((⟨r1.2,(⟨#[]⟩:BA),(⟨#[]⟩:BA),(0:Int),true,false,(⟨#[]⟩:BA)⟩:decimal_number),o3_0)) (fun (o3_1:BA × BA) =>
   (zab_p1 o3_1.1 (⟨#[]⟩:BA) true).bind fun o6=>(Sum.elim (fun (o6_0:Bool) =>
    some ((⟨r1.2,o3_1.2,(⟨#[]⟩:BA),(0:Int),true,false,(⟨#[]⟩:BA)⟩:decimal_number),o6_0)) (fun (o6_1:BA × BA × Bool) =>
    (zab_p2 o6_1.1 o6_1.2.2 false (⟨#[]⟩:BA)).bind fun o11=>(Sum.elim (fun (o11_0:Bool × Bool) =>
     some ((⟨r1.2,o3_1.2,(⟨#[]⟩:BA),(0:Int),o6_1.2.2,o11_0.2,(⟨#[]⟩:BA)⟩:decimal_number),o11_0.1)) (fun (o11_1:BA × Bool × Bool × BA) =>
     (zab_p4 o11_1.1 o6_1.2.1 o3_1.2 o11_1.2.2.1 o11_1.2.2.2).bind fun o14 =>
     some ((⟨r1.2,o3_1.2,o14.2.1,o14.2.2.1,o11_1.2.1,o14.2.2.2,o11_1.2.2.2⟩:decimal_number),o14.1))) o11)) o6)) o3)
 else (
  bif decide (part=(1:Int)) then (
   (zab_p0 s).bind fun o15=>(Sum.elim (fun (o15_0:Bool) =>
    some ((⟨false,(⟨#[]⟩:BA),(⟨#[]⟩:BA),(0:Int),true,false,(⟨#[]⟩:BA)⟩:decimal_number),o15_0)) (fun (o15_1:BA × BA) =>
    (zab_p1 o15_1.1 (⟨#[]⟩:BA) true).bind fun o16=>(Sum.elim (fun (o16_0:Bool) =>
     some ((⟨false,o15_1.2,(⟨#[]⟩:BA),(0:Int),true,false,(⟨#[]⟩:BA)⟩:decimal_number),o16_0)) (fun (o16_1:BA × BA × Bool) =>
     (zab_p2 o16_1.1 o16_1.2.2 false (⟨#[]⟩:BA)).bind fun o17=>(Sum.elim (fun (o17_0:Bool × Bool) =>
      some ((⟨false,o15_1.2,(⟨#[]⟩:BA),(0:Int),o16_1.2.2,o17_0.2,(⟨#[]⟩:BA)⟩:decimal_number),o17_0.1)) (fun (o17_1:BA × Bool × Bool × BA) =>
      (zab_p4 o17_1.1 o16_1.2.1 o15_1.2 o17_1.2.2.1 o17_1.2.2.2).bind fun o18 =>
      some ((⟨false,o15_1.2,o18.2.1,o18.2.2.1,o17_1.2.1,o18.2.2.2,o17_1.2.2.2⟩:decimal_number),o18.1))) o17)) o16)) o15)
  else (
   bif decide (part=(2:Int)) then (
    (zab_p1 s (⟨#[]⟩:BA) true).bind fun o19=>(Sum.elim (fun (o19_0:Bool) =>
     some ((⟨false,(⟨#[]⟩:BA),(⟨#[]⟩:BA),(0:Int),true,false,(⟨#[]⟩:BA)⟩:decimal_number),o19_0)) (fun (o19_1:BA × BA × Bool) =>
     (zab_p2 o19_1.1 o19_1.2.2 false (⟨#[]⟩:BA)).bind fun o20=>(Sum.elim (fun (o20_0:Bool × Bool) =>
      some ((⟨false,(⟨#[]⟩:BA),(⟨#[]⟩:BA),(0:Int),o19_1.2.2,o20_0.2,(⟨#[]⟩:BA)⟩:decimal_number),o20_0.1)) (fun (o20_1:BA × Bool × Bool × BA) =>
      (zab_p4 o20_1.1 o19_1.2.1 (⟨#[]⟩:BA) o20_1.2.2.1 o20_1.2.2.2).bind fun o21 =>
      some ((⟨false,(⟨#[]⟩:BA),o21.2.1,o21.2.2.1,o20_1.2.1,o21.2.2.2,o20_1.2.2.2⟩:decimal_number),o21.1))) o20)) o19)
   else (
    bif decide (part=(3:Int)) then (
     (zab_p2 s true false (⟨#[]⟩:BA)).bind fun o22=>(Sum.elim (fun (o22_0:Bool × Bool) =>
      some ((⟨false,(⟨#[]⟩:BA),(⟨#[]⟩:BA),(0:Int),true,o22_0.2,(⟨#[]⟩:BA)⟩:decimal_number),o22_0.1)) (fun (o22_1:BA × Bool × Bool × BA) =>
      (zab_p4 o22_1.1 (⟨#[]⟩:BA) (⟨#[]⟩:BA) o22_1.2.2.1 o22_1.2.2.2).bind fun o23 =>
      some ((⟨false,(⟨#[]⟩:BA),o23.2.1,o23.2.2.1,o22_1.2.1,o23.2.2.2,o22_1.2.2.2⟩:decimal_number),o23.1))) o22)
    else (
     (zab_p4 s (⟨#[]⟩:BA) (⟨#[]⟩:BA) false (⟨#[]⟩:BA)).bind fun o24 =>
     some ((⟨false,(⟨#[]⟩:BA),o24.2.1,o24.2.2.1,true,o24.2.2.2,(⟨#[]⟩:BA)⟩:decimal_number),o24.1)))))
def zab_G:Nat→Option CQ:=tblQ [(133,zck_w),(134,zac_w),(135,zcl_w),(136,zcm_w)]
theorem zab_Gok:∀f C,zab_G f=some C→qAf Tryd.prog f C:=qAj ⟨zck_ok,zac_ok,zcl_ok,zcm_ok,tV⟩
def zDGC1:=(qDt 175 (qAb dB (qAb dS (qAb dS (qAb dZ (qAb dB (qAb dB (qAb dS dNil))))))))
def zDGC3:=(qAb (dSO 0 dS) (qAb (dSO 4 (dH 0 0)) (qAb (dSO 6 (dH 1 0)) (qAb (dSO 7 dS) dNil))))
def zDGC5:=(qAb zDGC1 (qAb zDGC1 dNil))
def zab_d0:=(dQS zDGC3 zDGC5)
def zab_l0:SubQ:=mkL zab_d0 (fun x=>zab_p0 x.1.1) fun x r R kn kx kr=>(Sum.elim (fun (r_0:Bool)=>kr ⟨[sL 4 (.hd 0 0),sL 5 (.vB r_0)],[],[.cells 175 [.vB x.2.2.1.1,.vS x.2.2.1.2.1,.vS x.2.2.1.2.2.1,.vI x.2.2.1.2.2.2.1,.vB x.2.2.1.2.2.2.2.1,.vB x.2.2.1.2.2.2.2.2.1,.vS x.2.2.1.2.2.2.2.2.2.1]]⟩) (fun (r_1:BA × BA)=>kn ⟨[sL 0 (.vS r_1.1),sL 4 (.hd 0 0),sL 6 (.hd 1 0),sL 7 (.vS x.1.2.2.2.1)],[],[.cells 175 [.vB x.2.1.1,.vS x.2.1.2.1,.vS x.2.1.2.2.1,.vI x.2.1.2.2.2.1,.vB x.2.1.2.2.2.2.1,.vB x.2.1.2.2.2.2.2.1,.vS x.2.1.2.2.2.2.2.2.1],.cells 175 [.vB x.2.2.1.1,.vS r_1.2,.vS x.2.2.1.2.2.1,.vI x.2.2.1.2.2.2.1,.vB x.2.2.1.2.2.2.2.1,.vB x.2.2.1.2.2.2.2.2.1,.vS x.2.2.1.2.2.2.2.2.2.1]]⟩)) r
def zab_d1:=(dQS zDGC3 zDGC5)
def zab_l1:SubQ:=mkL zab_d1 (fun x=>zab_p1 x.1.1 x.1.2.2.2.1 x.2.2.1.2.2.2.2.1) fun x r R kn kx kr=>(Sum.elim (fun (r_0:Bool)=>kr ⟨[sL 4 (.hd 0 0),sL 5 (.vB r_0)],[],[.cells 175 [.vB x.2.2.1.1,.vS x.2.2.1.2.1,.vS x.2.2.1.2.2.1,.vI x.2.2.1.2.2.2.1,.vB x.2.2.1.2.2.2.2.1,.vB x.2.2.1.2.2.2.2.2.1,.vS x.2.2.1.2.2.2.2.2.2.1]]⟩) (fun (r_1:BA × BA × Bool)=>kn ⟨[sL 0 (.vS r_1.1),sL 4 (.hd 0 0),sL 6 (.hd 1 0),sL 7 (.vS r_1.2.1)],[],[.cells 175 [.vB x.2.1.1,.vS x.2.1.2.1,.vS x.2.1.2.2.1,.vI x.2.1.2.2.2.1,.vB x.2.1.2.2.2.2.1,.vB x.2.1.2.2.2.2.2.1,.vS x.2.1.2.2.2.2.2.2.1],.cells 175 [.vB x.2.2.1.1,.vS x.2.2.1.2.1,.vS x.2.2.1.2.2.1,.vI x.2.2.1.2.2.2.1,.vB r_1.2.2,.vB x.2.2.1.2.2.2.2.2.1,.vS x.2.2.1.2.2.2.2.2.2.1]]⟩)) r
def zab_d3:=(dQS zDGC3 zDGC5)
def zab_l3:SubQ:=mkL zab_d3 (fun x=>zab_p3 x.1.1) fun x r R kn kx kr=>(Sum.elim (fun (r_0:Bool)=>kr ⟨[sL 4 (.hd 0 0),sL 5 (.vB r_0)],[],[.cells 175 [.vB x.2.2.1.1,.vS x.2.2.1.2.1,.vS x.2.2.1.2.2.1,.vI x.2.2.1.2.2.2.1,.vB x.2.2.1.2.2.2.2.1,.vB x.2.2.1.2.2.2.2.2.1,.vS x.2.2.1.2.2.2.2.2.2.1]]⟩) (fun (r_1:BA × Bool × BA)=>kn ⟨[sL 0 (.vS r_1.1),sL 4 (.hd 0 0),sL 6 (.hd 1 0),sL 7 (.vS x.1.2.2.2.1)],[],[.cells 175 [.vB x.2.1.1,.vS x.2.1.2.1,.vS x.2.1.2.2.1,.vI x.2.1.2.2.2.1,.vB x.2.1.2.2.2.2.1,.vB x.2.1.2.2.2.2.2.1,.vS x.2.1.2.2.2.2.2.2.1],.cells 175 [.vB x.2.2.1.1,.vS x.2.2.1.2.1,.vS x.2.2.1.2.2.1,.vI x.2.2.1.2.2.2.1,.vB r_1.2.1,.vB x.2.2.1.2.2.2.2.2.1,.vS r_1.2.2]]⟩)) r
def zab_d2:=(dQS zDGC3 zDGC5)
def zab_l2:SubQ:=mkL zab_d2 (fun x=>zab_p2 x.1.1 x.2.2.1.2.2.2.2.1 x.2.2.1.2.2.2.2.2.1 x.2.2.1.2.2.2.2.2.2.1) fun x r R kn kx kr=>(Sum.elim (fun (r_0:Bool × Bool)=>kr ⟨[sL 4 (.hd 0 0),sL 5 (.vB r_0.1)],[],[.cells 175 [.vB x.2.2.1.1,.vS x.2.2.1.2.1,.vS x.2.2.1.2.2.1,.vI x.2.2.1.2.2.2.1,.vB x.2.2.1.2.2.2.2.1,.vB r_0.2,.vS x.2.2.1.2.2.2.2.2.2.1]]⟩) (fun (r_1:BA × Bool × Bool × BA)=>kx 0 ⟨[sL 0 (.vS r_1.1),sL 4 (.hd 0 0),sL 6 (.hd 1 0),sL 7 (.vS x.1.2.2.2.1)],[],[.cells 175 [.vB x.2.1.1,.vS x.2.1.2.1,.vS x.2.1.2.2.1,.vI x.2.1.2.2.2.1,.vB x.2.1.2.2.2.2.1,.vB x.2.1.2.2.2.2.2.1,.vS x.2.1.2.2.2.2.2.2.1],.cells 175 [.vB x.2.2.1.1,.vS x.2.2.1.2.1,.vS x.2.2.1.2.2.1,.vI x.2.2.1.2.2.2.1,.vB r_1.2.1,.vB r_1.2.2.1,.vS r_1.2.2.2]]⟩)) r
def zab_d4:=(dQS zDGC3 zDGC5)
def zab_l4:SubQ:=mkL zab_d4 (fun x=>zab_p4 x.1.1 x.1.2.2.2.1 x.2.2.1.2.1 x.2.2.1.2.2.2.2.2.1 x.2.2.1.2.2.2.2.2.2.1) fun x r R kn kx kr=>kr ⟨[sL 4 (.hd 0 0),sL 5 (.vB r.1)],[],[.cells 175 [.vB x.2.2.1.1,.vS x.2.2.1.2.1,.vS r.2.1,.vI r.2.2.1,.vB x.2.2.1.2.2.2.2.1,.vB r.2.2.2,.vS x.2.2.1.2.2.2.2.2.2.1]]⟩
def zab_L:Nat→SubQ:=tblL [(0,zab_l0),(1,zab_l1),(3,zab_l3),(2,zab_l2),(4,zab_l4)]
theorem zab_sub0:qBe zab_L zab_G 0 15 139 0 zab_b0:=qAq (show zab_L 0=zab_l0 from by kernel_rfl) fun x R kn kx kr=>by
 simp only [zab_p0,-eq_self,qAc,qAg,obA,obS,slL,slR,qAd];kernel_rfl
theorem zab_sub1:qBe zab_L zab_G 0 15 139 1 zab_b1:=qAq (show zab_L 1=zab_l1 from by kernel_rfl) fun x R kn kx kr=>by
 simp only [zab_p1,-eq_self,qAc,qAg,obA,obS,slL,slR,qAd];kernel_rfl
theorem zab_sub3:qBe zab_L zab_G 0 15 139 3 zab_b3:=qAq (show zab_L 3=zab_l3 from by kernel_rfl) fun x R kn kx kr=>by
 simp only [zab_p3,-eq_self,qAc,qAg,obA,obS,slL,slR,qAd];kernel_rfl
theorem zab_sub2:qBe zab_L zab_G 0 15 139 2 zab_b2:=qAq (show zab_L 2=zab_l2 from by kernel_rfl) fun x R kn kx kr=>by
 simp only [zab_p2,-eq_self,qAc,qAg,obA,obS,slL,slR,qAd];kernel_rfl
theorem zab_sub4:qBe zab_L zab_G 0 15 139 4 zab_b4:=qAq (show zab_L 4=zab_l4 from by kernel_rfl) fun x R kn kx kr=>by
 simp only [zab_p4,-eq_self,qAc,qAg,obA,obS,slL,slR,qAd];kernel_rfl
theorem zab_subs:qAp zab_L zab_G 0 15 139 zab_q:=qAk (show qAr zab_L zab_G 0 15 139 [(0,zab_b0),(1,zab_b1),(2,zab_b2),(3,zab_b3),(4,zab_b4)] from ⟨zab_sub0,zab_sub1,zab_sub2,zab_sub3,zab_sub4,tV⟩)
def zab_da:=(qAb (dVC (dCO dS)) (qAb (dVC (dCO dZ)) dNil))
def zab_db:=(dNil:Dec Unit (List SB))
def zab_c:CS:=mkC zab_da zab_db (fun x y=>zab_s x.1 x.2.1) (fun x y r=>.tup [.agg [.vB r.1.minus,.vS r.1.whole,.vS r.1.digits,.vI r.1.point,.vB r.1.plain,.vB r.1.down,.vS r.1.exp_],.o (.vB r.2)]) fun x y r=>[]
theorem zab_val:qAl Tryd.prog 123 zab_c:=qAn zab_chk 15 zab_Gok 0 (fun x=>Nat.le_of_ble_eq_true rfl) (fun y=>rfl) zab_subs fun x y=>by
 simp only [zab_s,-eq_self,qAc,qAg,obA,obS,slL,slR,qAd];kernel_rfl
def zab_w:CQ:=qDk [] zab_c
theorem zab_ok:qAf Tryd.prog 123 zab_w:=qAu zab_val
def qFq (text:BA):Option Bool :=
 (zab_s text (0:Int)).bind fun r1 =>
 some r1.2
def zaa_b0:IQ:=(.loop [4,6,23,24] (.seq (rg 25 [oP 25 (.bi .lss t24 t23)]) (.seq (.cond t25 .skip (.cn [4,6] (.exit 0))) (.seq (.block 1 (.seq (rg 7 [oM 26 t24,oM 7 t26]) (.seq (rg 8 [oP 27 (.faddr 1 t4),oP 28 (.load none t27),oM 29 t7,oP 30 (.index t28 t29),oP 31 (.bi .sub t30 (vC 48)),oP 32 (.conv false .u64 t31),oM 8 t32]) (.seq (.seq (rg 37 [oM 33 t6,oM 34 t8,oP 35 (.bi .sub (.v (.int .u64 9223372036854775808)) t34),oP 36 (.bi .quo t35 (.v (.int .u64 10))),oP 37 (.bi .gtr t33 t36)]) (.cond t37 (.seq (rg 3 [oP 2 (.mv (vI 0)),oP 3 (.mv vF)]) (.cn [2,3] .ret)) .skip)) (rg 6 [oM 38 t6,oP 39 (.bi .mul (.v (.int .u64 10)) t38),oM 40 t8,oP 41 (.bi .add t39 t40),oM 6 t41]))))) (rg 24 [oP 42 (.bi .add t24 (vI 1)),oM 24 t42])))))
def zaa_q:IQ:=(.seq (rg 3 [oP 2 (.mv (vI 0)),oP 3 (.mv vF)]) (.seq (rg 5 [oM 10 t0,oP 11 (.call 123 [t10,(vI 0)]),oM 9 t11,oP 12 (.extract t9 0),oP 13 (.extract t9 1),oP 4 (.alloc 175 [.bool false,.string ⟨#[]⟩,.string ⟨#[]⟩,.int .i64 0,.bool false,.bool false,.string ⟨#[]⟩]),oN (.store 7 t4 t12),oM 5 t13]) (.seq (.seq (rg 20 [oM 14 t5,oP 15 (.un .not t14),oM 16 t15,oE 17 (.faddr 4 t4) 16,oE 18 (.load none t17) 16,oE 19 (.un .not t18) 16,oP 20 (.pick t16 vT t19)]) (.cond t20 (.seq (rg 3 [oP 2 (.mv (vI 0)),oP 3 (.mv vF)]) (.cn [2,3] .ret)) .skip)) (.seq (rg 6 [oP 6 (.mv (.v (.int .u64 0)))]) (.seq (.seq (rg 24 [oP 21 (.faddr 1 t4),oP 22 (.load none t21),oP 23 (.lenS t22),oP 24 (.mv (vI 0))]) (.block 0 (.cn [4,6,23,24] (.sub 0 zaa_b0)))) (.seq (.seq (rg 49 [oP 43 (.faddr 0 t4),oP 44 (.load none t43),oP 45 (.un .not t44),oM 46 t45,oF 47 (.mv t6) 46,oF 48 (.bi .eql t47 (.v (.int .u64 9223372036854775808))) 46,oP 49 (.pick t46 t48 vF)]) (.cond t49 (.seq (rg 3 [oP 2 (.mv (vI 0)),oP 3 (.mv vF)]) (.cn [2,3] .ret)) .skip)) (.seq (.seq (rg 51 [oP 50 (.faddr 0 t4),oP 51 (.load none t50)]) (.cond t51 (rg 6 [oM 52 t6,oP 53 (.un .neg t52),oM 6 t53]) .skip)) (.seq (rg 3 [oM 54 t6,oP 55 (.conv true .i64 t54),oM 2 t55,oP 3 (.mv vT)]) (.cn [2,3] .ret)))))))))
theorem zaa_chk:chk Tryd.prog 110 [55]=some (zaa_q.erase,[.tmp 2,.tmp 3],56):=by kernel_rfl
def qEa (v x23_ x24_:Int) (n_whole:BA):Option ((Int × Int) ⊕ ((Int × Bool) ⊕ Int)) :=
 bif decide (x24_<x23_) then (
  gd (0≤x24_∧x24_<n_whole.size) <|
  gd (0≤(((9223372036854775808:Int) - ((((bAt n_whole x24_) - (48:Int)) % 256) % 18446744073709551616)) % 18446744073709551616)∧(((9223372036854775808:Int) - ((((bAt n_whole x24_) - (48:Int)) % 256) % 18446744073709551616)) % 18446744073709551616)≤18446744073709551615∧1≤(10:Int)) <|
  bif decide (((((9223372036854775808:Int) - ((((bAt n_whole x24_) - (48:Int)) % 256) % 18446744073709551616)) % 18446744073709551616) / (10:Int))<v) then (
   some (.inr (.inl ((0:Int),false))))
  else (
   gd (qAe (x24_+(1:Int))) <|
   some (.inl ((((((10:Int)*v) % 18446744073709551616)+((((bAt n_whole x24_) - (48:Int)) % 256) % 18446744073709551616)) % 18446744073709551616),(x24_+(1:Int))))))
 else (
  some (.inr (.inr v)))
def zaa_p0 (v x23_ x24_:Int) (n_whole:BA):Option ((Int × Bool) ⊕ Int) :=
 qA6 (fun x:(Int × Int)=>qEa x.1 x23_ x.2 n_whole) (v,x24_)
def zaa_s (text:BA):Option (Int × Bool) :=
 (zab_s text (0:Int)).bind fun r3 =>
 bif ((!r3.2) || (!r3.1.plain)) then (
  some ((0:Int),false))
 else (
  (zaa_p0 (0:Int) (r3.1.whole.size:Int) (0:Int) r3.1.whole).bind fun o4=>(Sum.elim (fun (o4_0:Int × Bool) =>
   some (o4_0.1,o4_0.2)) (fun (o4_1:Int) =>
   bif ((!r3.1.minus) && (decide (o4_1=(9223372036854775808:Int)))) then (
    some ((0:Int),false))
   else (
    bif r3.1.minus then (
     some (w64 ((0 - o4_1) % 18446744073709551616),true))
    else (
     some (w64 o4_1,true))))) o4)
def zaa_G:Nat→Option CQ:=tblQ [(123,zab_w)]
theorem zaa_Gok:∀f C,zaa_G f=some C→qAf Tryd.prog f C:=qAj ⟨zab_ok,tV⟩
def zaa_d0:=(dQS (qAb (dSO 4 (dH 0 0)) (qAb (dSO 6 (dI .u64)) (qAb (dSO 23 dZ) (qAb (dSO 24 dZ) dNil)))) (qAb zDGC1 dNil))
def zaa_l0:SubQ:=mkL zaa_d0 (fun x=>zaa_p0 x.1.2.1 x.1.2.2.1 x.1.2.2.2.1 x.2.1.2.1) fun x r R kn kx kr=>(Sum.elim (fun (r_0:Int × Bool)=>kr ⟨[sL 2 (.vI r_0.1),sL 3 (.vB r_0.2)],[],[]⟩) (fun (r_1:Int)=>kx 0 ⟨[sL 4 (.hd 0 0),(6,[],.c (.o (.val (.int .u64 r_1))))],[],[.cells 175 [.vB x.2.1.1,.vS x.2.1.2.1,.vS x.2.1.2.2.1,.vI x.2.1.2.2.2.1,.vB x.2.1.2.2.2.2.1,.vB x.2.1.2.2.2.2.2.1,.vS x.2.1.2.2.2.2.2.2.1]]⟩)) r
def zaa_L:Nat→SubQ:=tblL [(0,zaa_l0)]
theorem zaa_sub0:qBe zaa_L zaa_G 0 25 56 0 zaa_b0:=qAq (show zaa_L 0=zaa_l0 from by kernel_rfl) fun x R kn kx kr=>qAt (step:=fun y=>qEa y.1 x.1.2.2.1 y.2 x.2.1.2.1) (enc:=fun (y:Int × Int)=>zaa_d0.e ((x.1.1,y.1,x.1.2.2.1,y.2,x.1.2.2.2.2),x.2)) (fun y=>by kernel_rfl) (fun y ki=>by simp only [qEa,-eq_self,qAc,qAg,obA,obS,slL,slR,qAd]; kernel_rfl) (x.1.2.1,x.1.2.2.2.1)
theorem zaa_subs:qAp zaa_L zaa_G 0 25 56 zaa_q:=qAk (show qAr zaa_L zaa_G 0 25 56 [(0,zaa_b0)] from ⟨zaa_sub0,tV⟩)
def zaa_da:=(qAb (dVC (dCO dS)) dNil)
def zaa_db:=(dNil:Dec Unit (List SB))
def zaa_c:CS:=mkC zaa_da zaa_db (fun x y=>zaa_s x.1) (fun x y r=>.tup [.o (.vI r.1),.o (.vB r.2)]) fun x y r=>[]
theorem zaa_val:qAl Tryd.prog 110 zaa_c:=qAn zaa_chk 25 zaa_Gok 0 (fun x=>Nat.le_of_ble_eq_true rfl) (fun y=>rfl) zaa_subs fun x y=>by
 simp only [zaa_s,-eq_self,qAc,qAg,obA,obS,slL,slR,qAd];kernel_rfl
def zaa_w:CQ:=qDk [] zaa_c
theorem zaa_ok:qAf Tryd.prog 110 zaa_w:=qAu zaa_val
def zbo_q:IQ:=(.seq (rg 4 [oP 4 (.mv vF)]) (.seq (rg 4 [oM 5 t1,oM 6 t0,oP 7 (.lenS t6),oP 8 (.bi .lss t5 t7),oM 9 t8,oF 10 (.mv t0) 9,oF 11 (.mv t1) 9,oF 12 (.index t10 t11) 9,oF 13 (.bi .geq t12 (vC 48)) 9,oP 14 (.pick t9 t13 vF),oM 15 t14,oF 16 (.mv t0) 15,oF 17 (.mv t1) 15,oF 18 (.index t16 t17) 15,oF 19 (.bi .leq t18 (vC 57)) 15,oP 20 (.pick t15 t19 vF),oM 4 t20]) (.cn [4] .ret)))
theorem zbo_chk:chk Tryd.prog 141 []=some (zbo_q.erase,[.tmp 4],21):=by kernel_rfl
def zbo_s (s:BA) (at_:Int):Option Bool :=
 gd ((decide (at_<(s.size:Int)))=true→0≤at_∧at_<s.size) <|
 gd (((decide (at_<(s.size:Int))) && (decide ((48:Int)≤(bAt s at_))))=true→0≤at_∧at_<s.size) <|
 some (((decide (at_<(s.size:Int))) && (decide ((48:Int)≤(bAt s at_)))) && (decide ((bAt s at_)≤(57:Int))))
def zbo_G:Nat→Option CQ:=tblQ []
theorem zbo_Gok:∀f C,zbo_G f=some C→qAf Tryd.prog f C:=fun f C h=>by cases h
def zbo_L:Nat→SubQ:=tblL []
theorem zbo_subs:qAp zbo_L zbo_G 0 5 21 zbo_q:=qAk (show qAr zbo_L zbo_G 0 5 21 [] from tV)
def zbo_da:=(qAb (dVC (dCO dS)) (qAb (dVC (dCO dZ)) dNil))
def zbo_db:=(dNil:Dec Unit (List SB))
def zbo_c:CS:=mkC zbo_da zbo_db (fun x y=>zbo_s x.1 x.2.1) (fun x y r=>.c (.o (.vB r))) fun x y r=>[]
theorem zbo_val:qAl Tryd.prog 141 zbo_c:=qAn zbo_chk 5 zbo_Gok 0 (fun x=>Nat.le_of_ble_eq_true rfl) (fun y=>rfl) zbo_subs fun x y=>by
 simp only [zbo_s,-eq_self,qAc,qAg,obA,obS,slL,slR,qAd];kernel_rfl
def zbo_w:CQ:=qDk [] zbo_c
theorem zbo_ok:qAf Tryd.prog 141 zbo_w:=qAu zbo_val
def zbp_b0:IQ:=(.loop [0,1] (.seq (.seq (rg 7 [oM 5 t0,oM 6 t1,oP 7 (.call 141 [t5,t6])]) (.cond t7 .skip (.cn [1] (.exit 0)))) (.block 1 (rg 1 [oM 8 t1,oP 9 (.bi .add t8 (vI 1)),oM 1 t9]))))
def zbp_q:IQ:=(.seq (rg 4 [oP 4 (.mv (vI 0))]) (.seq (.block 0 (.cn [0,1] (.sub 0 zbp_b0))) (.seq (rg 4 [oM 10 t1,oM 4 t10]) (.cn [4] .ret))))
theorem zbp_chk:chk Tryd.prog 132 []=some (zbp_q.erase,[.tmp 4],11):=by kernel_rfl
def zbp_p0_step (s:BA) (at_:Int):Option (Int ⊕ Int) :=
 (zbo_s s at_).bind fun r2 =>
 bif r2 then (
  gd (qAe (at_+(1:Int))) <|
  some (.inl (at_+(1:Int))))
 else (
  some (.inr at_))
def zbp_p0 (s:BA) (at_:Int):Option Int :=
 qA6 (fun x:Int=>zbp_p0_step s x) at_
def zbp_s (s:BA) (at_:Int):Option Int :=
 (zbp_p0 s at_).bind fun o3 =>
 some o3
def zbp_G:Nat→Option CQ:=tblQ [(141,zbo_w)]
theorem zbp_Gok:∀f C,zbp_G f=some C→qAf Tryd.prog f C:=qAj ⟨zbo_ok,tV⟩
def zbp_d0:=(dQS (qAb (dSO 0 dS) (qAb (dSO 1 dZ) dNil)) dNil)
def zbp_l0:SubQ:=mkL zbp_d0 (fun x=>zbp_p0 x.1.1 x.1.2.1) fun x r R kn kx kr=>kx 0 ⟨[sL 1 (.vI r)],[],[]⟩
def zbp_L:Nat→SubQ:=tblL [(0,zbp_l0)]
theorem zbp_sub0:qBe zbp_L zbp_G 0 5 11 0 zbp_b0:=qAq (show zbp_L 0=zbp_l0 from by kernel_rfl) fun x R kn kx kr=>qAt (step:=fun y=>zbp_p0_step x.1.1 y) (enc:=fun (y:Int)=>zbp_d0.e ((x.1.1,y,x.1.2.2),x.2)) (fun y=>by kernel_rfl) (fun y ki=>by simp only [zbp_p0_step,-eq_self,qAc,qAg,obA,obS,slL,slR,qAd]; kernel_rfl) x.1.2.1
theorem zbp_subs:qAp zbp_L zbp_G 0 5 11 zbp_q:=qAk (show qAr zbp_L zbp_G 0 5 11 [(0,zbp_b0)] from ⟨zbp_sub0,tV⟩)
def zbp_da:=(qAb (dVC (dCO dS)) (qAb (dVC (dCO dZ)) dNil))
def zbp_db:=(dNil:Dec Unit (List SB))
def zbp_c:CS:=mkC zbp_da zbp_db (fun x y=>zbp_s x.1 x.2.1) (fun x y r=>.c (.o (.vI r))) fun x y r=>[]
theorem zbp_val:qAl Tryd.prog 132 zbp_c:=qAn zbp_chk 5 zbp_Gok 0 (fun x=>Nat.le_of_ble_eq_true rfl) (fun y=>rfl) zbp_subs fun x y=>by
 simp only [zbp_s,-eq_self,qAc,qAg,obA,obS,slL,slR,qAd];kernel_rfl
def zbp_w:CQ:=qDk [] zbp_c
theorem zbp_ok:qAf Tryd.prog 132 zbp_w:=qAu zbp_val
def zbm_b3:IQ:=(.loop [0,2,4,7,9,10] (.seq (.seq (rg 140 [oM 138 t10,oM 139 t9,oP 140 (.bi .lss t138 t139)]) (.cond t140 .skip (.cn [0,2,4,7,9] (.exit 0)))) (.seq (.block 1 (.seq (rg 152 [oM 143 t0,oM 144 t10,oP 145 (.index t143 t144),oP 146 (.bi .neq t145 (vC 48)),oM 147 t146,oE 148 (.faddr 4 t4) 147,oE 149 (.load none t148) 147,oE 150 (.len t149) 147,oE 151 (.bi .gtr t150 (vI 0)) 147,oP 152 (.pick t147 vT t151)]) (.cond t152 (.reg 0 (some [0,1,2,3,4,5,6,7,8,9,10]) [oP 153 (.faddr 4 t4),oP 154 (.load none t153),oM 155 t0,oM 156 t10,oP 157 (.index t155 t156),oP 158 (.bi .sub t157 (vC 48)),oP 159 (.conv false .i64 t158),oP 160 (.bslice 3 1 1 [.int .i64 0] [(0,t159)]),oP 161 (.append 3 1 8 [.int .i64 0] t154 t160),oP 162 (.faddr 4 t4),oN (.store 1 t162 t161)]) .skip))) (rg 10 [oM 141 t10,oP 142 (.bi .add t141 (vI 1)),oM 10 t142]))))
def zbm_b2:IQ:=(.join [] [0,2,4,5,7] (.seq (rg 9 [oM 130 t0,oM 131 t5,oP 132 (.call 132 [t130,t131]),oM 9 t132]) (.seq (.seq (rg 135 [oM 133 t9,oM 134 t5,oP 135 (.bi .eql t133 t134)]) (.cond t135 (.seq (rg 3 [oP 136 (.load (some 7) t4),oN (.store 7 t2 t136),oP 3 (.mv vF)]) (.canon [(2,some 1,.i64,3),(2,some 4,.i64,3)] [2,3] .ret)) .skip)) (.seq (.seq (rg 10 [oM 137 t5,oM 10 t137]) (.block 0 (.canon [(4,some 4,.i64,3)] [0,2,4,7,9,10] (.sub 3 zbm_b3)))) (rg 5 [oM 163 t9,oM 5 t163])))))
def zbm_b5:IQ:=(.loop [2,4,7,11] (.seq (.seq (rg 172 [oM 169 t11,oM 170 t7,oP 171 (.lenS t170),oP 172 (.bi .lss t169 t171)]) (.cond t172 .skip (.cn [2,4] (.exit 2)))) (.seq (.block 3 (.seq (rg 12 [oM 175 t7,oM 176 t11,oP 177 (.index t175 t176),oP 178 (.bi .sub t177 (vC 48)),oP 179 (.conv false .i64 t178),oM 12 t179]) (.seq (rg 187 [oM 180 t12,oP 181 (.bi .neq t180 (vI 0)),oM 182 t181,oE 183 (.faddr 1 t4) 182,oE 184 (.load none t183) 182,oE 185 (.len t184) 182,oE 186 (.bi .gtr t185 (vI 0)) 182,oP 187 (.pick t182 vT t186)]) (.cond t187 (rg 0 [oP 188 (.faddr 1 t4),oP 189 (.load none t188),oM 190 t12,oP 191 (.bslice 3 1 1 [.int .i64 0] [(0,t190)]),oP 192 (.append 3 1 8 [.int .i64 0] t189 t191),oP 193 (.faddr 1 t4),oN (.store 1 t193 t192)]) (rg 0 [oP 194 (.faddr 2 t4),oP 195 (.load none t194),oP 196 (.bi .sub t195 (vI 1)),oP 197 (.faddr 2 t4),oN (.store 1 t197 t196)]))))) (rg 11 [oM 173 t11,oP 174 (.bi .add t173 (vI 1)),oM 11 t174]))))
def zbm_b6:IQ:=(.loop [2,4] (.seq (.seq (rg 212 [oP 198 (.faddr 1 t4),oP 199 (.load none t198),oP 200 (.len t199),oP 201 (.bi .gtr t200 (vI 0)),oM 202 t201,oF 203 (.faddr 1 t4) 202,oF 204 (.load none t203) 202,oF 205 (.faddr 1 t4) 202,oF 206 (.load none t205) 202,oF 207 (.len t206) 202,oF 208 (.bi .sub t207 (vI 1)) 202,oF 209 (.iaddr 1 t204 t208) 202,oF 210 (.load none t209) 202,oF 211 (.bi .eql t210 (vI 0)) 202,oP 212 (.pick t202 t211 vF)]) (.cond t212 .skip (.cn [2,4] (.exit 4)))) (.block 5 (rg 0 [oP 213 (.faddr 1 t4),oP 214 (.load none t213),oP 215 (.faddr 1 t4),oP 216 (.load none t215),oP 217 (.len t216),oP 218 (.bi .sub t217 (vI 1)),oP 219 (.sub (some 1) t214 none (some t218)),oP 220 (.faddr 1 t4),oN (.store 1 t220 t219)]))))
def zbm_b4:IQ:=(.seq (.seq (rg 167 [oM 164 t5,oM 165 t0,oP 166 (.lenS t165),oP 167 (.bi .neq t164 t166)]) (.cond t167 (.seq (rg 3 [oP 168 (.load (some 7) t4),oN (.store 7 t2 t168),oP 3 (.mv vF)]) (.canon [(2,some 1,.i64,3),(2,some 4,.i64,3)] [2,3] .ret)) .skip)) (.seq (.seq (rg 11 [oP 11 (.mv (vI 0))]) (.block 2 (.canon [(4,some 1,.i64,3)] [2,4,7,11] (.sub 5 zbm_b5)))) (.seq (.block 4 (.cn [2,4] (.sub 6 zbm_b6))) (.seq (rg 3 [oP 221 (.load (some 7) t4),oN (.store 7 t2 t221),oP 3 (.mv vT)]) (.canon [(2,some 1,.i64,3),(2,some 4,.i64,3)] [2,3] .ret)))))
def zbm_b1:IQ:=(.seq (.seq (rg 103 [oM 88 t5,oM 89 t0,oP 90 (.lenS t89),oP 91 (.bi .lss t88 t90),oM 92 t91,oF 93 (.mv t0) 92,oF 94 (.mv t5) 92,oF 95 (.index t93 t94) 92,oF 96 (.bi .eql t95 (vC 101)) 92,oF 97 (.mv t96) 92,oE 98 (.mv t0) 97,oE 99 (.mv t5) 97,oE 100 (.index t98 t99) 97,oE 101 (.bi .eql t100 (vC 69)) 97,oF 102 (.pick t97 vT t101) 92,oP 103 (.pick t92 t102 vF)]) (.cond t103 (.seq (rg 0 [oP 104 (.faddr 5 t4),oN (.store 1 t104 vF)]) (.seq (rg 5 [oM 105 t5,oP 106 (.bi .add t105 (vI 1)),oM 5 t106]) (.seq (.seq (rg 122 [oM 107 t5,oM 108 t0,oP 109 (.lenS t108),oP 110 (.bi .lss t107 t109),oM 111 t110,oF 112 (.mv t0) 111,oF 113 (.mv t5) 111,oF 114 (.index t112 t113) 111,oF 115 (.bi .eql t114 (vC 43)) 111,oF 116 (.mv t115) 111,oE 117 (.mv t0) 116,oE 118 (.mv t5) 116,oE 119 (.index t117 t118) 116,oE 120 (.bi .eql t119 (vC 45)) 116,oF 121 (.pick t116 vT t120) 111,oP 122 (.pick t111 t121 vF)]) (.cond t122 (.seq (rg 0 [oM 123 t0,oM 124 t5,oP 125 (.index t123 t124),oP 126 (.bi .eql t125 (vC 45)),oP 127 (.faddr 3 t4),oN (.store 1 t127 t126)]) (rg 5 [oM 128 t5,oP 129 (.bi .add t128 (vI 1)),oM 5 t129])) .skip)) (.cn [0,2,4,5,7] (.sub 2 zbm_b2))))) .skip)) (.canon [(4,some 4,.i64,3)] [0,2,4,5,7] (.sub 4 zbm_b4)))
def zbm_b0:IQ:=(.seq (rg 6 [oM 27 t5,oM 6 t27]) (.seq (rg 5 [oM 28 t0,oM 29 t5,oP 30 (.call 132 [t28,t29]),oM 5 t30]) (.seq (.seq (rg 45 [oM 31 t5,oM 32 t6,oP 33 (.bi .eql t31 t32),oM 34 t33,oE 35 (.mv t0) 34,oE 36 (.mv t6) 34,oE 37 (.index t35 t36) 34,oE 38 (.bi .eql t37 (vC 48)) 34,oE 39 (.mv t38) 34,oF 40 (.mv t5) 39,oF 41 (.mv t6) 39,oF 42 (.bi .add t41 (vI 1)) 39,oF 43 (.bi .gtr t40 t42) 39,oE 44 (.pick t39 t43 vF) 34,oP 45 (.pick t34 vT t44)]) (.cond t45 (.seq (rg 3 [oP 46 (.load (some 7) t4),oN (.store 7 t2 t46),oP 3 (.mv vF)]) (.canon [(2,some 1,.i64,3),(2,some 4,.i64,3)] [2,3] .ret)) .skip)) (.seq (rg 0 [oM 47 t0,oM 48 t6,oM 49 t5,oP 50 (.sub none t47 (some t48) (some t49)),oP 51 (.faddr 6 t4),oN (.store 1 t51 t50)]) (.seq (rg 7 [oM 52 t0,oM 53 t6,oM 54 t5,oP 55 (.sub none t52 (some t53) (some t54)),oM 7 t55]) (.seq (rg 0 [oM 56 t5,oM 57 t6,oP 58 (.bi .sub t56 t57),oP 59 (.faddr 2 t4),oN (.store 1 t59 t58)]) (.seq (.seq (rg 69 [oM 60 t5,oM 61 t0,oP 62 (.lenS t61),oP 63 (.bi .lss t60 t62),oM 64 t63,oF 65 (.mv t0) 64,oF 66 (.mv t5) 64,oF 67 (.index t65 t66) 64,oF 68 (.bi .eql t67 (vC 46)) 64,oP 69 (.pick t64 t68 vF)]) (.cond t69 (.seq (rg 0 [oP 70 (.faddr 5 t4),oN (.store 1 t70 vF)]) (.seq (rg 8 [oM 71 t0,oM 72 t5,oP 73 (.bi .add t72 (vI 1)),oP 74 (.call 132 [t71,t73]),oM 8 t74]) (.seq (.seq (rg 78 [oM 75 t8,oM 76 t5,oP 77 (.bi .add t76 (vI 1)),oP 78 (.bi .eql t75 t77)]) (.cond t78 (.seq (rg 3 [oP 79 (.load (some 7) t4),oN (.store 7 t2 t79),oP 3 (.mv vF)]) (.canon [(2,some 1,.i64,3),(2,some 4,.i64,3)] [2,3] .ret)) .skip)) (.seq (rg 7 [oM 80 t7,oM 81 t0,oM 82 t5,oP 83 (.bi .add t82 (vI 1)),oM 84 t8,oP 85 (.sub none t81 (some t83) (some t84)),oP 86 (.bi .add t80 t85),oM 7 t86]) (rg 5 [oM 87 t8,oM 5 t87]))))) .skip)) (.cn [0,2,4,5,7] (.sub 1 zbm_b1)))))))))
def zbm_q:IQ:=(.seq (rg 3 [oP 2 (.alloc 169 [.bool false,.slice none 0 0,.int .i64 0,.bool false,.slice none 0 0,.bool false,.string ⟨#[]⟩]),oP 3 (.mv vF)]) (.seq (rg 0 [oP 13 (.build [.bool false,.slice none 0 0,.int .i64 0,.bool false,.slice none 0 0,.bool false,.string ⟨#[]⟩] [(5,1,vT)]),oP 4 (.alloc 169 [.bool false,.slice none 0 0,.int .i64 0,.bool false,.slice none 0 0,.bool false,.string ⟨#[]⟩]),oN (.store 7 t4 t13)]) (.seq (rg 5 [oP 5 (.mv (vI 0))]) (.seq (.seq (rg 23 [oM 14 t5,oM 15 t0,oP 16 (.lenS t15),oP 17 (.bi .lss t14 t16),oM 18 t17,oF 19 (.mv t0) 18,oF 20 (.mv t5) 18,oF 21 (.index t19 t20) 18,oF 22 (.bi .eql t21 (vC 45)) 18,oP 23 (.pick t18 t22 vF)]) (.cond t23 (.seq (rg 0 [oP 24 (.faddr 0 t4),oN (.store 1 t24 vT)]) (rg 5 [oM 25 t5,oP 26 (.bi .add t25 (vI 1)),oM 5 t26])) .skip)) (.cn [0,2,4,5] (.sub 0 zbm_b0))))))
theorem zbm_chk:chk Tryd.prog 121 []=some (zbm_q.erase,[.cell 2 (some 7),.tmp 3],222):=by kernel_rfl
def zbm_p3_step (s:BA) (k_ i:Int) (qHx:List Int):Option ((Int × (List Int)) ⊕ ((List Int))) :=
 bif decide (i<k_) then (
  gd (0≤i∧i<s.size) <|
  bif ((!decide ((bAt s i)=(48:Int))) || (decide ((0:Int)<(qHx.length:Int)))) then (
   gd (0≤i∧i<s.size) <|
   gd (qAe (((bAt s i) - (48:Int)) % 256)) <|
   gd (qHx.length+([(((bAt s i) - (48:Int)) % 256)]:List Int).length≤9223372036854775807∧(qHx.length+([(((bAt s i) - (48:Int)) % 256)]:List Int).length)*8≤140737488355328) <|
   gd (qAe (i+(1:Int))) <|
   some (.inl ((i+(1:Int)),(qHx++[(((bAt s i) - (48:Int)) % 256)]))))
  else (
   gd (qAe (i+(1:Int))) <|
   some (.inl ((i+(1:Int)),qHx))))
 else (
  some (.inr qHx))
def zbm_p3 (s:BA) (k_ i:Int) (qHx:List Int):Option ((List Int)) :=
 qA6 (fun x:(Int × (List Int))=>zbm_p3_step s k_ x.1 x.2) (i,qHx)
def zbm_p2 (s:BA) (at_:Int):Option ((Bool × (List Int) × (List Int)) ⊕ (Int × (List Int))) :=
 (zbp_s s at_).bind fun r81 =>
 bif decide (r81=at_) then (
  some (.inl (false,[],[])))
 else (
  (zbm_p3 s r81 at_ []).bind fun o82 =>
  some (.inr (r81,o82)))
def zbm_p5_step (all:BA) (i qHp:Int) (qHm:List Int):Option ((Int × Int × (List Int)) ⊕ (Int × (List Int))) :=
 bif decide (i<(all.size:Int)) then (
  gd (0≤i∧i<all.size) <|
  gd (qAe (((bAt all i) - (48:Int)) % 256)) <|
  bif ((!decide ((((bAt all i) - (48:Int)) % 256)=(0:Int))) || (decide ((0:Int)<(qHm.length:Int)))) then (
   gd (qHm.length+([(((bAt all i) - (48:Int)) % 256)]:List Int).length≤9223372036854775807∧(qHm.length+([(((bAt all i) - (48:Int)) % 256)]:List Int).length)*8≤140737488355328) <|
   gd (qAe (i+(1:Int))) <|
   some (.inl ((i+(1:Int)),qHp,(qHm++[(((bAt all i) - (48:Int)) % 256)]))))
  else (
   gd (qAe (qHp - (1:Int))) <|
   gd (qAe (i+(1:Int))) <|
   some (.inl ((i+(1:Int)),(qHp - (1:Int)),qHm))))
 else (
  some (.inr (qHp,qHm)))
def zbm_p5 (all:BA) (i qHp:Int) (qHm:List Int):Option (Int × (List Int)) :=
 qA6 (fun x:(Int × Int × (List Int))=>zbm_p5_step all x.1 x.2.1 x.2.2) (i,qHp,qHm)
def zbm_p6_step (qHm:List Int):Option (((List Int)) ⊕ ((List Int))) :=
 gd ((decide ((0:Int)<(qHm.length:Int)))=true→qAe ((qHm.length:Int) - (1:Int))) <|
 gd ((decide ((0:Int)<(qHm.length:Int)))=true→0≤((qHm.length:Int) - (1:Int))∧((qHm.length:Int) - (1:Int))<qHm.length) <|
 gd ((decide ((0:Int)<(qHm.length:Int)))=true→(Int.toNat ((qHm.length:Int) - (1:Int)))<qHm.length) <|
 bif ((decide ((0:Int)<(qHm.length:Int))) && (decide ((qHm.getD (Int.toNat ((qHm.length:Int) - (1:Int))) (ET.dft .i64))=(0:Int)))) then (
  gd (qAe ((qHm.length:Int) - (1:Int))) <|
  gd (0≤((qHm.length:Int) - (1:Int))∧((qHm.length:Int) - (1:Int))≤qHm.length) <|
  some (.inl (qHm.take (Int.toNat ((qHm.length:Int) - (1:Int))))))
 else (
  some (.inr qHm))
def zbm_p6 (qHm:List Int):Option ((List Int)) :=
 qA6 (fun x:((List Int))=>zbm_p6_step x) qHm
def zbm_p4 (s:BA) (at_:Int) (all:BA) (qHp:Int):Option (Bool × Int × (List Int)) :=
 bif (!decide (at_=(s.size:Int))) then (
  some (false,qHp,[]))
 else (
  (zbm_p5 all (0:Int) qHp []).bind fun o84 =>
  (zbm_p6 o84.2).bind fun o85 =>
  some (true,o84.1,o85))
def zbm_p1 (s:BA) (at_:Int) (all:BA) (qHp:Int) (qHw qH3:Bool):Option (Bool × Int × Bool × Bool × (List Int) × (List Int)) :=
 gd ((decide (at_<(s.size:Int)))=true→0≤at_∧at_<s.size) <|
 gd ((decide ((bAt s at_)=(101:Int)))=false→(decide (at_<(s.size:Int)))=true→0≤at_∧at_<s.size) <|
 bif ((decide (at_<(s.size:Int))) && ((decide ((bAt s at_)=(101:Int))) || (decide ((bAt s at_)=(69:Int))))) then (
  gd (qAe (at_+(1:Int))) <|
  gd ((decide ((at_+(1:Int))<(s.size:Int)))=true→0≤(at_+(1:Int))∧(at_+(1:Int))<s.size) <|
  gd ((decide ((bAt s (at_+(1:Int)))=(43:Int)))=false→(decide ((at_+(1:Int))<(s.size:Int)))=true→0≤(at_+(1:Int))∧(at_+(1:Int))<s.size) <|
  bif ((decide ((at_+(1:Int))<(s.size:Int))) && ((decide ((bAt s (at_+(1:Int)))=(43:Int))) || (decide ((bAt s (at_+(1:Int)))=(45:Int))))) then (
   gd (0≤(at_+(1:Int))∧(at_+(1:Int))<s.size) <|
   gd (qAe ((at_+(1:Int))+(1:Int))) <|
   (zbm_p2 s ((at_+(1:Int))+(1:Int))).bind fun o83=>(Sum.elim (fun (o83_0:Bool × (List Int) × (List Int)) =>
    some (o83_0.1,qHp,decide ((bAt s (at_+(1:Int)))=(45:Int)),false,o83_0.2.1,o83_0.2.2)) (fun (o83_1:Int × (List Int)) =>
    (zbm_p4 s o83_1.1 all qHp).bind fun o86 =>
    some (o86.1,o86.2.1,decide ((bAt s (at_+(1:Int)))=(45:Int)),false,o86.2.2,o83_1.2))) o83)
  else (
   (zbm_p2 s (at_+(1:Int))).bind fun o87=>(Sum.elim (fun (o87_0:Bool × (List Int) × (List Int)) =>
    some (o87_0.1,qHp,qHw,false,o87_0.2.1,o87_0.2.2)) (fun (o87_1:Int × (List Int)) =>
    (zbm_p4 s o87_1.1 all qHp).bind fun o88 =>
    some (o88.1,o88.2.1,qHw,false,o88.2.2,o87_1.2))) o87))
 else (
  (zbm_p4 s at_ all qHp).bind fun o89 =>
  some (o89.1,o89.2.1,qHw,qH3,o89.2.2,[]))
def zbm_p0 (s:BA) (at_ qHp:Int) (qHw qH3:Bool) (qHn:BA):Option (Bool × Int × Bool × Bool × BA × (List Int) × (List Int)) :=
 (zbp_s s at_).bind fun r79 =>
 gd ((decide (r79=at_))=false→0≤at_∧at_<s.size) <|
 gd ((decide ((bAt s at_)=(48:Int)))=true→(decide (r79=at_))=false→qAe (at_+(1:Int))) <|
 bif ((decide (r79=at_)) || ((decide ((bAt s at_)=(48:Int))) && (decide ((at_+(1:Int))<r79)))) then (
  some (false,qHp,qHw,qH3,qHn,[],[]))
 else (
  gd (0≤at_∧at_≤r79∧r79≤s.size) <|
  gd (0≤at_∧at_≤r79∧r79≤s.size) <|
  gd (qAe (r79 - at_)) <|
  gd ((decide (r79<(s.size:Int)))=true→0≤r79∧r79<s.size) <|
  bif ((decide (r79<(s.size:Int))) && (decide ((bAt s r79)=(46:Int)))) then (
   gd (qAe (r79+(1:Int))) <|
   (zbp_s s (r79+(1:Int))).bind fun r80 =>
   gd (qAe (r79+(1:Int))) <|
   bif decide (r80=(r79+(1:Int))) then (
    some (false,(r79 - at_),qHw,false,(s.extract (Int.toNat at_) (Int.toNat r79)),[],[]))
   else (
    gd (qAe (r79+(1:Int))) <|
    gd (0≤(r79+(1:Int))∧(r79+(1:Int))≤r80∧r80≤s.size) <|
    gd ((s.extract (Int.toNat at_) (Int.toNat r79)).size+(s.extract (Int.toNat (r79+(1:Int))) (Int.toNat r80)).size≤9223372036854775807) <|
    (zbm_p1 s r80 ((s.extract (Int.toNat at_) (Int.toNat r79))++(s.extract (Int.toNat (r79+(1:Int))) (Int.toNat r80))) (r79 - at_) qHw false).bind fun o90 =>
    some (o90.1,o90.2.1,o90.2.2.1,o90.2.2.2.1,(s.extract (Int.toNat at_) (Int.toNat r79)),o90.2.2.2.2.1,o90.2.2.2.2.2)))
  else (
   (zbm_p1 s r79 (s.extract (Int.toNat at_) (Int.toNat r79)) (r79 - at_) qHw qH3).bind fun o91 =>
   some (o91.1,o91.2.1,o91.2.2.1,o91.2.2.2.1,(s.extract (Int.toNat at_) (Int.toNat r79)),o91.2.2.2.2.1,o91.2.2.2.2.2)))
def zbm_s (s:BA):Option (qHv × Bool) :=
 gd ((decide ((0:Int)<(s.size:Int)))=true→0≤(0:Int)∧(0:Int)<s.size) <|
 bif ((decide ((0:Int)<(s.size:Int))) && (decide ((bAt s (0:Int))=(45:Int)))) then (
  gd (qAe ((0:Int)+(1:Int))) <|
  (zbm_p0 s ((0:Int)+(1:Int)) (0:Int) false true (⟨#[]⟩:BA)).bind fun o92 =>
  some ((⟨true,o92.2.2.2.2.2.1,o92.2.1,o92.2.2.1,o92.2.2.2.2.2.2,o92.2.2.2.1,o92.2.2.2.2.1⟩:qHv),o92.1))
 else (
  (zbm_p0 s (0:Int) (0:Int) false true (⟨#[]⟩:BA)).bind fun o93 =>
  some ((⟨false,o93.2.2.2.2.2.1,o93.2.1,o93.2.2.1,o93.2.2.2.2.2.2,o93.2.2.2.1,o93.2.2.2.2.1⟩:qHv),o93.1))
def zbm_G:Nat→Option CQ:=tblQ [(132,zbp_w)]
theorem zbm_Gok:∀f C,zbm_G f=some C→qAf Tryd.prog f C:=qAj ⟨zbp_ok,tV⟩
def zDGC2:=(qDt 169 (qAb dB (qAb dNS (qAb dZ (qAb dB (qAb dNS (qAb dB (qAb dS dNil))))))))
def zDGC6:=(qAb dZ (qAb dB (qAb (dO 2) (qAb dB (qAb dS dNil)))))
def zbm_d3:=(dQS (qAb (dSO 0 dS) (qAb (dSO 2 (dH 0 0)) (qAb (dSO 4 (dH 1 0)) (qAb (dSO 7 dS) (qAb (dSO 9 dZ) (qAb (dSO 10 dZ) dNil)))))) (qAb zDGC2 (qAb (qDt 169 (qAb dB (qAb dNS zDGC6))) (qAb (dRow .i64 3) dNil))))
def zbm_l3:SubQ:=mkL zbm_d3 (fun x=>zbm_p3 x.1.1 x.1.2.2.2.2.1 x.1.2.2.2.2.2.1 x.2.2.2.1) fun x r R kn kx kr=>kx 0 ⟨[sL 0 (.vS x.1.1),sL 2 (.hd 0 0),sL 4 (.hd 1 0),sL 7 (.vS x.1.2.2.2.1),sL 9 (.vI x.1.2.2.2.2.1)],[],[.cells 169 [.vB x.2.1.1,.val (.slice none 0 0),.vI x.2.1.2.2.1,.vB x.2.1.2.2.2.1,.val (.slice none 0 0),.vB x.2.1.2.2.2.2.2.1,.vS x.2.1.2.2.2.2.2.2.1],.cells 169 [.vB x.2.2.1.1,.val (.slice none 0 0),.vI x.2.2.1.2.2.1,.vB x.2.2.1.2.2.2.1,.own 2,.vB x.2.2.1.2.2.2.2.2.1,.vS x.2.2.1.2.2.2.2.2.2.1],.row .i64 3 r]⟩
def zDGC4:=(qAb (dSO 0 dS) (qAb (dSO 2 (dH 0 0)) (qAb (dSO 4 (dH 1 0)) (qAb (dSO 5 dZ) (qAb (dSO 7 dS) dNil)))))
def zDGC8:=(qAb zDGC2 (qAb zDGC2 dNil))
def zbm_d2:=(dQS zDGC4 zDGC8)
def zbm_l2:SubQ:=mkL zbm_d2 (fun x=>zbm_p2 x.1.1 x.1.2.2.2.1) fun x r R kn kx kr=>(Sum.elim (fun (r_0:Bool × (List Int) × (List Int))=>kr ⟨[sL 2 (.hd 0 0),sL 3 (.vB r_0.1)],[],[.cells 169 [.vB x.2.2.1.1,.own 1,.vI x.2.2.1.2.2.1,.vB x.2.2.1.2.2.2.1,.own 2,.vB x.2.2.1.2.2.2.2.2.1,.vS x.2.2.1.2.2.2.2.2.2.1],.row .i64 3 r_0.2.1,.row .i64 3 r_0.2.2]⟩) (fun (r_1:Int × (List Int))=>kn ⟨[sL 0 (.vS x.1.1),sL 2 (.hd 0 0),sL 4 (.hd 1 0),sL 5 (.vI r_1.1),sL 7 (.vS x.1.2.2.2.2.1)],[],[.cells 169 [.vB x.2.1.1,.val (.slice none 0 0),.vI x.2.1.2.2.1,.vB x.2.1.2.2.2.1,.val (.slice none 0 0),.vB x.2.1.2.2.2.2.2.1,.vS x.2.1.2.2.2.2.2.2.1],.cells 169 [.vB x.2.2.1.1,.val (.slice none 0 0),.vI x.2.2.1.2.2.1,.vB x.2.2.1.2.2.2.1,.own 2,.vB x.2.2.1.2.2.2.2.2.1,.vS x.2.2.1.2.2.2.2.2.2.1],.row .i64 3 r_1.2]⟩)) r
def zDGC7:=(qAb (dRow .i64 3) (qAb (dRow .i64 3) dNil))
def zbm_d5:=(dQS (qAb (dSO 2 (dH 0 0)) (qAb (dSO 4 (dH 1 0)) (qAb (dSO 7 dS) (qAb (dSO 11 dZ) dNil)))) (qAb zDGC2 (qAb (qDt 169 (qAb dB (qAb (dO 2) (qAb dZ (qAb dB (qAb (dO 3) (qAb dB (qAb dS dNil)))))))) zDGC7)))
def zbm_l5:SubQ:=mkL zbm_d5 (fun x=>zbm_p5 x.1.2.2.1 x.1.2.2.2.1 x.2.2.1.2.2.1 x.2.2.2.1) fun x r R kn kx kr=>kx 2 ⟨[sL 2 (.hd 0 0),sL 4 (.hd 1 0)],[],[.cells 169 [.vB x.2.1.1,.val (.slice none 0 0),.vI x.2.1.2.2.1,.vB x.2.1.2.2.2.1,.val (.slice none 0 0),.vB x.2.1.2.2.2.2.2.1,.vS x.2.1.2.2.2.2.2.2.1],.cells 169 [.vB x.2.2.1.1,.own 2,.vI r.1,.vB x.2.2.1.2.2.2.1,.own 3,.vB x.2.2.1.2.2.2.2.2.1,.vS x.2.2.1.2.2.2.2.2.2.1],.row .i64 3 r.2,.row .i64 3 x.2.2.2.2.1]⟩
def zbm_d6:=(dQS (qAb (dSO 2 (dH 0 0)) (qAb (dSO 4 (dH 1 0)) dNil)) (qAb zDGC2 (qAb (qDt 169 (qAb dB (qAb (dO 2) (qAb dZ (qAb dB (qAb (dO 3) (qAb dB (qAb dS dNil)))))))) zDGC7)))
def zbm_l6:SubQ:=mkL zbm_d6 (fun x=>zbm_p6 x.2.2.2.1) fun x r R kn kx kr=>kx 4 ⟨[sL 2 (.hd 0 0),sL 4 (.hd 1 0)],[],[.cells 169 [.vB x.2.1.1,.val (.slice none 0 0),.vI x.2.1.2.2.1,.vB x.2.1.2.2.2.1,.val (.slice none 0 0),.vB x.2.1.2.2.2.2.2.1,.vS x.2.1.2.2.2.2.2.2.1],.cells 169 [.vB x.2.2.1.1,.own 2,.vI x.2.2.1.2.2.1,.vB x.2.2.1.2.2.2.1,.own 3,.vB x.2.2.1.2.2.2.2.2.1,.vS x.2.2.1.2.2.2.2.2.2.1],.row .i64 3 r,.row .i64 3 x.2.2.2.2.1]⟩
def zbm_d4:=(dQS zDGC4 (qAb zDGC2 (qAb (qDt 169 (qAb dB (qAb dNS zDGC6))) (qAb (dRow .i64 3) dNil))))
def zbm_l4:SubQ:=mkL zbm_d4 (fun x=>zbm_p4 x.1.1 x.1.2.2.2.1 x.1.2.2.2.2.1 x.2.2.1.2.2.1) fun x r R kn kx kr=>kr ⟨[sL 2 (.hd 0 0),sL 3 (.vB r.1)],[],[.cells 169 [.vB x.2.2.1.1,.own 1,.vI r.2.1,.vB x.2.2.1.2.2.2.1,.own 2,.vB x.2.2.1.2.2.2.2.2.1,.vS x.2.2.1.2.2.2.2.2.2.1],.row .i64 3 r.2.2,.row .i64 3 x.2.2.2.1]⟩
def zbm_d1:=(dQS zDGC4 zDGC8)
def zbm_l1:SubQ:=mkL zbm_d1 (fun x=>zbm_p1 x.1.1 x.1.2.2.2.1 x.1.2.2.2.2.1 x.2.2.1.2.2.1 x.2.2.1.2.2.2.1 x.2.2.1.2.2.2.2.2.1) fun x r R kn kx kr=>kr ⟨[sL 2 (.hd 0 0),sL 3 (.vB r.1)],[],[.cells 169 [.vB x.2.2.1.1,.own 1,.vI r.2.1,.vB r.2.2.1,.own 2,.vB r.2.2.2.1,.vS x.2.2.1.2.2.2.2.2.2.1],.row .i64 3 r.2.2.2.2.1,.row .i64 3 r.2.2.2.2.2]⟩
def zbm_d0:=(dQS (qAb (dSO 0 dS) (qAb (dSO 2 (dH 0 0)) (qAb (dSO 4 (dH 1 0)) (qAb (dSO 5 dZ) dNil)))) zDGC8)
def zbm_l0:SubQ:=mkL zbm_d0 (fun x=>zbm_p0 x.1.1 x.1.2.2.2.1 x.2.2.1.2.2.1 x.2.2.1.2.2.2.1 x.2.2.1.2.2.2.2.2.1 x.2.2.1.2.2.2.2.2.2.1) fun x r R kn kx kr=>kr ⟨[sL 2 (.hd 0 0),sL 3 (.vB r.1)],[],[.cells 169 [.vB x.2.2.1.1,.own 1,.vI r.2.1,.vB r.2.2.1,.own 2,.vB r.2.2.2.1,.vS r.2.2.2.2.1],.row .i64 3 r.2.2.2.2.2.1,.row .i64 3 r.2.2.2.2.2.2]⟩
def zbm_L:Nat→SubQ:=tblL [(3,zbm_l3),(2,zbm_l2),(5,zbm_l5),(6,zbm_l6),(4,zbm_l4),(1,zbm_l1),(0,zbm_l0)]
theorem zbm_sub3:qBe zbm_L zbm_G 0 13 222 3 zbm_b3:=qAq (show zbm_L 3=zbm_l3 from by kernel_rfl) fun x R kn kx kr=>qAt (step:=fun y=>zbm_p3_step x.1.1 x.1.2.2.2.2.1 y.1 y.2) (enc:=fun (y:Int × (List Int))=>zbm_d3.e ((x.1.1,x.1.2.1,x.1.2.2.1,x.1.2.2.2.1,x.1.2.2.2.2.1,y.1,x.1.2.2.2.2.2.2),(x.2.1,x.2.2.1,y.2,x.2.2.2.2))) (fun y=>by kernel_rfl) (fun y ki=>by simp only [zbm_p3_step,-eq_self,qAc,qAg,obA,obS,slL,slR,qAd]; kernel_rfl) (x.1.2.2.2.2.2.1,x.2.2.2.1)
theorem zbm_sub2:qBe zbm_L zbm_G 0 13 222 2 zbm_b2:=qAq (show zbm_L 2=zbm_l2 from by kernel_rfl) fun x R kn kx kr=>by
 simp only [zbm_p2,-eq_self,qAc,qAg,obA,obS,slL,slR,qAd];kernel_rfl
theorem zbm_sub5:qBe zbm_L zbm_G 0 13 222 5 zbm_b5:=qAq (show zbm_L 5=zbm_l5 from by kernel_rfl) fun x R kn kx kr=>qAt (step:=fun y=>zbm_p5_step x.1.2.2.1 y.1 y.2.1 y.2.2) (enc:=fun (y:Int × Int × (List Int))=>zbm_d5.e ((x.1.1,x.1.2.1,x.1.2.2.1,y.1,x.1.2.2.2.2),(x.2.1,(x.2.2.1.1,x.2.2.1.2.1,y.2.1,x.2.2.1.2.2.2),y.2.2,x.2.2.2.2))) (fun y=>by kernel_rfl) (fun y ki=>by simp only [zbm_p5_step,-eq_self,qAc,qAg,obA,obS,slL,slR,qAd]; kernel_rfl) (x.1.2.2.2.1,x.2.2.1.2.2.1,x.2.2.2.1)
theorem zbm_sub6:qBe zbm_L zbm_G 0 13 222 6 zbm_b6:=qAq (show zbm_L 6=zbm_l6 from by kernel_rfl) fun x R kn kx kr=>qAt (step:=fun y=>zbm_p6_step y) (enc:=fun (y:(List Int))=>zbm_d6.e (x.1,(x.2.1,x.2.2.1,y,x.2.2.2.2))) (fun y=>by kernel_rfl) (fun y ki=>by simp only [zbm_p6_step,-eq_self,qAc,qAg,obA,obS,slL,slR,qAd]; kernel_rfl) x.2.2.2.1
theorem zbm_sub4:qBe zbm_L zbm_G 0 13 222 4 zbm_b4:=qAq (show zbm_L 4=zbm_l4 from by kernel_rfl) fun x R kn kx kr=>by
 simp only [zbm_p4,-eq_self,qAc,qAg,obA,obS,slL,slR,qAd];kernel_rfl
theorem zbm_sub1:qBe zbm_L zbm_G 0 13 222 1 zbm_b1:=qAq (show zbm_L 1=zbm_l1 from by kernel_rfl) fun x R kn kx kr=>by
 simp only [zbm_p1,-eq_self,qAc,qAg,obA,obS,slL,slR,qAd];kernel_rfl
theorem zbm_sub0:qBe zbm_L zbm_G 0 13 222 0 zbm_b0:=qAq (show zbm_L 0=zbm_l0 from by kernel_rfl) fun x R kn kx kr=>by
 simp only [zbm_p0,-eq_self,qAc,qAg,obA,obS,slL,slR,qAd];kernel_rfl
theorem zbm_subs:qAp zbm_L zbm_G 0 13 222 zbm_q:=qAk (show qAr zbm_L zbm_G 0 13 222 [(0,zbm_b0),(1,zbm_b1),(2,zbm_b2),(3,zbm_b3),(4,zbm_b4),(5,zbm_b5),(6,zbm_b6)] from ⟨zbm_sub0,zbm_sub1,zbm_sub2,zbm_sub3,zbm_sub4,zbm_sub5,zbm_sub6,tV⟩)
def zbm_da:=(qAb (dVC (dCO dS)) dNil)
def zbm_db:=(dNil:Dec Unit (List SB))
def zbm_c:CS:=mkC zbm_da zbm_db (fun x y=>zbm_s x.1) (fun x y r=>.tup [.agg [.vB r.1.minus,.own 0,.vI r.1.off,.vB r.1.down,.own 1,.vB r.1.plain,.vS r.1.text],.o (.vB r.2)]) fun x y r=>[.row .i64 3 r.1.digits,.row .i64 3 r.1.exp_]
theorem zbm_val:qAl Tryd.prog 121 zbm_c:=qAn zbm_chk 13 zbm_Gok 0 (fun x=>Nat.le_of_ble_eq_true rfl) (fun y=>rfl) zbm_subs fun x y=>by
 simp only [zbm_s,-eq_self,qAc,qAg,obA,obS,slL,slR,qAd];kernel_rfl
def zbm_w:CQ:=qB9 [] zbm_c
theorem zbm_ok:qAf Tryd.prog 121 zbm_w:=qA4 zbm_val
def qDy (text:BA):Option Bool :=
 (zbm_s text).bind fun r1 =>
 some r1.2
def zbn_b0:IQ:=(.loop [4,6,7] (.seq (.seq (rg 25 [oM 21 t7,oP 22 (.faddr 6 t4),oP 23 (.load none t22),oP 24 (.lenS t23),oP 25 (.bi .lss t21 t24)]) (.cond t25 .skip (.cn [4,6] (.exit 0)))) (.seq (.block 1 (.seq (rg 8 [oP 28 (.faddr 6 t4),oP 29 (.load none t28),oM 30 t7,oP 31 (.index t29 t30),oP 32 (.bi .sub t31 (vC 48)),oP 33 (.conv false .i64 t32),oM 8 t33]) (.seq (.seq (rg 38 [oM 34 t6,oM 35 t8,oP 36 (.bi .add (.v (.int .i64 (-9223372036854775808))) t35),oP 37 (.bin true .quo t36 (vI 10)),oP 38 (.bi .lss t34 t37)]) (.cond t38 (.seq (rg 3 [oP 2 (.mv (vI 0)),oP 3 (.mv vF)]) (.cn [2,3] .ret)) .skip)) (rg 6 [oM 39 t6,oP 40 (.bi .mul (vI 10) t39),oM 41 t8,oP 42 (.bi .sub t40 t41),oM 6 t42])))) (rg 7 [oM 26 t7,oP 27 (.bi .add t26 (vI 1)),oM 7 t27]))))
def zbn_q:IQ:=(.seq (rg 3 [oP 2 (.mv (vI 0)),oP 3 (.mv vF)]) (.seq (rg 5 [oM 10 t0,oP 11 (.call 121 [t10]),oM 9 t11,oP 12 (.extract t9 0),oP 13 (.extract t9 1),oP 4 (.alloc 169 [.bool false,.slice none 0 0,.int .i64 0,.bool false,.slice none 0 0,.bool false,.string ⟨#[]⟩]),oN (.store 7 t4 t12),oM 5 t13]) (.seq (.seq (rg 20 [oM 14 t5,oP 15 (.un .not t14),oM 16 t15,oE 17 (.faddr 5 t4) 16,oE 18 (.load none t17) 16,oE 19 (.un .not t18) 16,oP 20 (.pick t16 vT t19)]) (.cond t20 (.seq (rg 3 [oP 2 (.mv (vI 0)),oP 3 (.mv vF)]) (.cn [2,3] .ret)) .skip)) (.seq (rg 6 [oP 6 (.mv (vI 0))]) (.seq (.seq (rg 7 [oP 7 (.mv (vI 0))]) (.block 0 (.cn [4,6,7] (.sub 0 zbn_b0)))) (.seq (.seq (rg 44 [oP 43 (.faddr 0 t4),oP 44 (.load none t43)]) (.cond t44 (.seq (rg 3 [oM 45 t6,oM 2 t45,oP 3 (.mv vT)]) (.cn [2,3] .ret)) .skip)) (.seq (.seq (rg 47 [oM 46 t6,oP 47 (.bi .eql t46 (.v (.int .i64 (-9223372036854775808))))]) (.cond t47 (.seq (rg 3 [oP 2 (.mv (vI 0)),oP 3 (.mv vF)]) (.cn [2,3] .ret)) .skip)) (.seq (rg 3 [oM 48 t6,oP 49 (.un .neg t48),oM 2 t49,oP 3 (.mv vT)]) (.cn [2,3] .ret)))))))))
theorem zbn_chk:chk Tryd.prog 107 [37]=some (zbn_q.erase,[.tmp 2,.tmp 3],50):=by kernel_rfl
def qEk (v i:Int) (qHn:BA):Option ((Int × Int) ⊕ ((Int × Bool) ⊕ Int)) :=
 bif decide (i<(qHn.size:Int)) then (
  gd (0≤i∧i<qHn.size) <|
  gd (qAe (((bAt qHn i) - (48:Int)) % 256)) <|
  gd (qAe ((-9223372036854775808:Int)+(((bAt qHn i) - (48:Int)) % 256))) <|
  gd ((10:Int)≠0∧qAe (Int.tdiv ((-9223372036854775808:Int)+(((bAt qHn i) - (48:Int)) % 256)) (10:Int))) <|
  bif decide (v<(Int.tdiv ((-9223372036854775808:Int)+(((bAt qHn i) - (48:Int)) % 256)) (10:Int))) then (
   some (.inr (.inl ((0:Int),false))))
  else (
   gd (qAe ((10:Int)*v)) <|
   gd (qAe (((10:Int)*v) - (((bAt qHn i) - (48:Int)) % 256))) <|
   gd (qAe (i+(1:Int))) <|
   some (.inl ((((10:Int)*v) - (((bAt qHn i) - (48:Int)) % 256)),(i+(1:Int))))))
 else (
  some (.inr (.inr v)))
def zbn_p0 (v i:Int) (qHn:BA):Option ((Int × Bool) ⊕ Int) :=
 qA6 (fun x:(Int × Int)=>qEk x.1 x.2 qHn) (v,i)
def zbn_s (text:BA):Option (Int × Bool) :=
 (zbm_s text).bind fun r3 =>
 bif ((!r3.2) || (!r3.1.plain)) then (
  some ((0:Int),false))
 else (
  (zbn_p0 (0:Int) (0:Int) r3.1.text).bind fun o4=>(Sum.elim (fun (o4_0:Int × Bool) =>
   some (o4_0.1,o4_0.2)) (fun (o4_1:Int) =>
   bif r3.1.minus then (
    some (o4_1,true))
   else (
    bif decide (o4_1=(-9223372036854775808:Int)) then (
     some ((0:Int),false))
    else (
     gd (qAe (0 - o4_1)) <|
     some ((0 - o4_1),true))))) o4)
def zbn_G:Nat→Option CQ:=tblQ [(121,zbm_w)]
theorem zbn_Gok:∀f C,zbn_G f=some C→qAf Tryd.prog f C:=qAj ⟨zbm_ok,tV⟩
def zbn_d0:=(dQS (qAb (dSO 4 (dH 0 0)) (qAb (dSO 6 dZ) (qAb (dSO 7 dZ) dNil))) (qAb (qDt 169 (qAb dB (qAb (dO 1) zDGC6))) zDGC7))
def zbn_l0:SubQ:=mkL zbn_d0 (fun x=>zbn_p0 x.1.2.1 x.1.2.2.1 x.2.1.2.2.2.2.2.2.1) fun x r R kn kx kr=>(Sum.elim (fun (r_0:Int × Bool)=>kr ⟨[sL 2 (.vI r_0.1),sL 3 (.vB r_0.2)],[],[]⟩) (fun (r_1:Int)=>kx 0 ⟨[sL 4 (.hd 0 0),sL 6 (.vI r_1)],[],[.cells 169 [.vB x.2.1.1,.own 1,.vI x.2.1.2.2.1,.vB x.2.1.2.2.2.1,.own 2,.vB x.2.1.2.2.2.2.2.1,.vS x.2.1.2.2.2.2.2.2.1],.row .i64 3 x.2.2.1,.row .i64 3 x.2.2.2.1]⟩)) r
def zbn_L:Nat→SubQ:=tblL [(0,zbn_l0)]
theorem zbn_sub0:qBe zbn_L zbn_G 0 9 50 0 zbn_b0:=qAq (show zbn_L 0=zbn_l0 from by kernel_rfl) fun x R kn kx kr=>qAt (step:=fun y=>qEk y.1 y.2 x.2.1.2.2.2.2.2.2.1) (enc:=fun (y:Int × Int)=>zbn_d0.e ((x.1.1,y.1,y.2,x.1.2.2.2),x.2)) (fun y=>by kernel_rfl) (fun y ki=>by simp only [qEk,-eq_self,qAc,qAg,obA,obS,slL,slR,qAd]; kernel_rfl) (x.1.2.1,x.1.2.2.1)
theorem zbn_subs:qAp zbn_L zbn_G 0 9 50 zbn_q:=qAk (show qAr zbn_L zbn_G 0 9 50 [(0,zbn_b0)] from ⟨zbn_sub0,tV⟩)
def zbn_da:=(qAb (dVC (dCO dS)) dNil)
def zbn_db:=(dNil:Dec Unit (List SB))
def zbn_c:CS:=mkC zbn_da zbn_db (fun x y=>zbn_s x.1) (fun x y r=>.tup [.o (.vI r.1),.o (.vB r.2)]) fun x y r=>[]
theorem zbn_val:qAl Tryd.prog 107 zbn_c:=qAn zbn_chk 9 zbn_Gok 0 (fun x=>Nat.le_of_ble_eq_true rfl) (fun y=>rfl) zbn_subs fun x y=>by
 simp only [zbn_s,-eq_self,qAc,qAg,obA,obS,slL,slR,qAd];kernel_rfl
def zbn_w:CQ:=qDk [] zbn_c
theorem zbn_ok:qAf Tryd.prog 107 zbn_w:=qAu zbn_val
end
end Go.Proofs.YticplgndjpljiaaDoor
