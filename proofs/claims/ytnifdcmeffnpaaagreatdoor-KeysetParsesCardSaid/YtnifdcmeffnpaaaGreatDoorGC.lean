/-
  Functions as the engine reads them (printed by gen.py).
-/
import Derived.Test.YtnifdcmeffnpaaaGreatDoorEngO
import Derived.Test.YtnifdcmeffnpaaaGreatDoorProg
namespace Go.Proofs.YtnifdcmeffnpaaaGreatDoor
open Go.Eng
set_option linter.unusedVariables false
set_option linter.unusedSimpArgs false
set_option maxRecDepth 100000
noncomputable section
structure decimal_number where
 minus:Bool
 whole:BA
 digits:BA
 point:Int
 plain:Bool
 down:Bool
 exp_:BA
structure qHe where
 minus:Bool
 digits:(List Int)
 off:Int
 down:Bool
 exp_:(List Int)
 plain:Bool
 text:BA
def zae_q:IQ:=(.seq (rg 4 [oP 4 (.mv vF)]) (.seq (rg 4 [oM 5 t0,oP 6 (.lenS t5),oM 7 t1,oP 8 (.lenS t7),oP 9 (.bi .geq t6 t8),oM 10 t9,oF 11 (.mv t0) 10,oF 12 (.mv t1) 10,oF 13 (.lenS t12) 10,oF 14 (.sub none t11 none (some t13)) 10,oF 15 (.mv t1) 10,oF 16 (.bi .eql t14 t15) 10,oP 17 (.pick t10 t16 vF),oM 4 t17]) (.cn [4] .ret)))
theorem zae_chk:chk Tryz.prog 92 []=some (zae_q.erase,[.tmp 4],18):=by kernel_rfl
def zae_s (s prefix_:BA):Option Bool :=
 gd ((decide ((prefix_.size:Int)≤(s.size:Int)))=true→0≤(0:Int)∧(0:Int)≤(prefix_.size:Int)∧(prefix_.size:Int)≤s.size) <|
 some ((decide ((prefix_.size:Int)≤(s.size:Int))) && (decide ((s.extract 0 (Int.toNat (prefix_.size:Int)))=prefix_)))
def zae_G:Nat→Option CQ:=tblQ []
theorem zae_Gok:∀f C,zae_G f=some C→qAg Tryz.prog f C:=fun f C h=>by cases h
def zae_L:Nat→SubQ:=tblL []
theorem zae_subs:qAn zae_L zae_G 0 5 18 zae_q:=qAk (show qAq zae_L zae_G 0 5 18 [] from tV)
def zae_da:=(qAb (dVC (dCO dS)) (qAb (dVC (dCO dS)) dNil))
def zae_db:=(dNil:Dec Unit (List SB))
def zae_c:CS:=mkC zae_da zae_db (fun x y=>zae_s x.1 x.2.1) (fun x y r=>.c (.o (.vB r))) fun x y r=>[]
theorem zae_val:qAl Tryz.prog 92 zae_c:=qAm zae_chk 5 zae_Gok 0 (fun x=>Nat.le_of_ble_eq_true rfl) (fun y=>rfl) zae_subs fun x y=>by
 simp only [zae_s,-eq_self,qAd,qAf,obA,obS,slL,slR,qAc];kernel_rfl
def zae_w:CQ:=qCj [] zae_c
theorem zae_ok:qAg Tryz.prog 92 zae_w:=qAx zae_val
def zad_q:IQ:=(.seq (rg 5 [oP 4 (.mv (.v (.string ⟨#[]⟩))),oP 5 (.mv vF)]) (.seq (.seq (rg 9 [oM 6 t0,oM 7 t1,oP 8 (.call 92 [t6,t7]),oP 9 (.un .not t8)]) (.cond t9 (.seq (rg 5 [oM 10 t0,oM 4 t10,oP 5 (.mv vF)]) (.cn [4,5] .ret)) .skip)) (.seq (rg 5 [oM 11 t0,oM 12 t1,oP 13 (.lenS t12),oP 14 (.sub none t11 (some t13) none),oM 4 t14,oP 5 (.mv vT)]) (.cn [4,5] .ret))))
theorem zad_chk:chk Tryz.prog 84 []=some (zad_q.erase,[.tmp 4,.tmp 5],15):=by kernel_rfl
def zad_s (s prefix_:BA):Option (BA × Bool) :=
 (zae_s s prefix_).bind fun r1 =>
 bif (!r1) then (
  some (s,false))
 else (
  gd (0≤(prefix_.size:Int)∧(prefix_.size:Int)≤(s.size:Int)∧(s.size:Int)≤s.size) <|
  some ((s.extract (Int.toNat (prefix_.size:Int)) s.size),true))
def zad_G:Nat→Option CQ:=tblQ [(92,zae_w)]
theorem zad_Gok:∀f C,zad_G f=some C→qAg Tryz.prog f C:=qAj ⟨zae_ok,tV⟩
def zad_L:Nat→SubQ:=tblL []
theorem zad_subs:qAn zad_L zad_G 0 6 15 zad_q:=qAk (show qAq zad_L zad_G 0 6 15 [] from tV)
def zad_da:=(qAb (dVC (dCO dS)) (qAb (dVC (dCO dS)) dNil))
def zad_db:=(dNil:Dec Unit (List SB))
def zad_c:CS:=mkC zad_da zad_db (fun x y=>zad_s x.1 x.2.1) (fun x y r=>.tup [.o (.vS r.1),.o (.vB r.2)]) fun x y r=>[]
theorem zad_val:qAl Tryz.prog 84 zad_c:=qAm zad_chk 6 zad_Gok 0 (fun x=>Nat.le_of_ble_eq_true rfl) (fun y=>rfl) zad_subs fun x y=>by
 simp only [zad_s,-eq_self,qAd,qAf,obA,obS,slL,slR,qAc];kernel_rfl
def zad_w:CQ:=qCj [] zad_c
theorem zad_ok:qAg Tryz.prog 84 zad_w:=qAx zad_val
def zcx_q:IQ:=(.seq (rg 5 [oP 4 (.mv (.v (.string ⟨#[]⟩))),oP 5 (.mv vF)]) (.seq (rg 5 [oM 6 t0,oM 7 t1,oP 8 (.call 84 [t6,t7]),oP 9 (.extract t8 0),oP 10 (.extract t8 1),oM 4 t9,oM 5 t10]) (.cn [4,5] .ret)))
theorem zcx_chk:chk Tryz.prog 78 []=some (zcx_q.erase,[.tmp 4,.tmp 5],11):=by kernel_rfl
def zcx_s (s prefix_:BA):Option (BA × Bool) :=
 (zad_s s prefix_).bind fun r1 =>
 some (r1.1,r1.2)
def zcx_G:Nat→Option CQ:=tblQ [(84,zad_w)]
theorem zcx_Gok:∀f C,zcx_G f=some C→qAg Tryz.prog f C:=qAj ⟨zad_ok,tV⟩
def zcx_L:Nat→SubQ:=tblL []
theorem zcx_subs:qAn zcx_L zcx_G 0 6 11 zcx_q:=qAk (show qAq zcx_L zcx_G 0 6 11 [] from tV)
def zcx_da:=(qAb (dVC (dCO dS)) (qAb (dVC (dCO dS)) dNil))
def zcx_db:=(dNil:Dec Unit (List SB))
def zcx_c:CS:=mkC zcx_da zcx_db (fun x y=>zcx_s x.1 x.2.1) (fun x y r=>.tup [.o (.vS r.1),.o (.vB r.2)]) fun x y r=>[]
theorem zcx_val:qAl Tryz.prog 78 zcx_c:=qAm zcx_chk 6 zcx_Gok 0 (fun x=>Nat.le_of_ble_eq_true rfl) (fun y=>rfl) zcx_subs fun x y=>by
 simp only [zcx_s,-eq_self,qAd,qAf,obA,obS,slL,slR,qAc];kernel_rfl
def zcx_w:CQ:=qCj [] zcx_c
theorem zcx_ok:qAg Tryz.prog 78 zcx_w:=qAx zcx_val
def zac_b0:IQ:=(.loop [0,3] (.seq (.seq (rg 19 [oM 4 t3,oM 5 t0,oP 6 (.lenS t5),oP 7 (.bi .lss t4 t6),oM 8 t7,oF 9 (.mv t0) 8,oF 10 (.mv t3) 8,oF 11 (.index t9 t10) 8,oF 12 (.bi .geq t11 (vC 48)) 8,oP 13 (.pick t8 t12 vF),oM 14 t13,oF 15 (.mv t0) 14,oF 16 (.mv t3) 14,oF 17 (.index t15 t16) 14,oF 18 (.bi .leq t17 (vC 57)) 14,oP 19 (.pick t14 t18 vF)]) (.cond t19 .skip (.cn [3] (.exit 0)))) (.block 1 (rg 3 [oM 20 t3,oP 21 (.bi .add t20 (vI 1)),oM 3 t21]))))
def zac_q:IQ:=(.seq (rg 2 [oP 2 (.mv (vI 0))]) (.seq (rg 3 [oP 3 (.mv (vI 0))]) (.seq (.block 0 (.cn [0,3] (.sub 0 zac_b0))) (.seq (rg 2 [oM 22 t3,oM 2 t22]) (.cn [2] .ret)))))
theorem zac_chk:chk Tryz.prog 79 []=some (zac_q.erase,[.tmp 2],23):=by kernel_rfl
def zac_p0_step (s:BA) (n:Int):Option (Int ⊕ Int) :=
 gd ((decide (n<(s.size:Int)))=true→0≤n∧n<s.size) <|
 gd (((decide (n<(s.size:Int))) && (decide ((48:Int)≤(bAt s n))))=true→0≤n∧n<s.size) <|
 bif (((decide (n<(s.size:Int))) && (decide ((48:Int)≤(bAt s n)))) && (decide ((bAt s n)≤(57:Int)))) then (
  gd (qAe (n+(1:Int))) <|
  some (.inl (n+(1:Int))))
 else (
  some (.inr n))
def zac_p0 (s:BA) (n:Int):Option Int :=
 qA0 (fun x:Int=>zac_p0_step s x) n
def zac_s (s:BA):Option Int :=
 (zac_p0 s (0:Int)).bind fun o1 =>
 some o1
def zac_G:Nat→Option CQ:=tblQ []
theorem zac_Gok:∀f C,zac_G f=some C→qAg Tryz.prog f C:=fun f C h=>by cases h
def zac_d0:=(dQS (qAb (dSO 0 dS) (qAb (dSO 3 dZ) dNil)) dNil)
def zac_l0:SubQ:=mkL zac_d0 (fun x=>zac_p0 x.1.1 x.1.2.1) fun x r R kn kx kr=>kx 0 ⟨[sL 3 (.vI r)],[],[]⟩
def zac_L:Nat→SubQ:=tblL [(0,zac_l0)]
theorem zac_sub0:qA4 zac_L zac_G 0 4 23 0 zac_b0:=qAr (show zac_L 0=zac_l0 from by kernel_rfl) fun x R kn kx kr=>qAo (step:=fun y=>zac_p0_step x.1.1 y) (enc:=fun (y:Int)=>zac_d0.e ((x.1.1,y,x.1.2.2),x.2)) (fun y=>by kernel_rfl) (fun y ki=>by simp only [zac_p0_step,-eq_self,qAd,qAf,obA,obS,slL,slR,qAc]; kernel_rfl) x.1.2.1
theorem zac_subs:qAn zac_L zac_G 0 4 23 zac_q:=qAk (show qAq zac_L zac_G 0 4 23 [(0,zac_b0)] from ⟨zac_sub0,tV⟩)
def zac_da:=(qAb (dVC (dCO dS)) dNil)
def zac_db:=(dNil:Dec Unit (List SB))
def zac_c:CS:=mkC zac_da zac_db (fun x y=>zac_s x.1) (fun x y r=>.c (.o (.vI r))) fun x y r=>[]
theorem zac_val:qAl Tryz.prog 79 zac_c:=qAm zac_chk 4 zac_Gok 0 (fun x=>Nat.le_of_ble_eq_true rfl) (fun y=>rfl) zac_subs fun x y=>by
 simp only [zac_s,-eq_self,qAd,qAf,obA,obS,slL,slR,qAc];kernel_rfl
def zac_w:CQ:=qCj [] zac_c
theorem zac_ok:qAg Tryz.prog 79 zac_w:=qAx zac_val
def zda_b0:IQ:=(.loop [0,1] (.seq (.seq (rg 13 [oM 5 t0,oP 6 (.lenS t5),oP 7 (.bi .gtr t6 (vI 0)),oM 8 t7,oF 9 (.mv t0) 8,oF 10 (.index t9 (vI 0)) 8,oF 11 (.mv t1) 8,oF 12 (.bi .eql t10 t11) 8,oP 13 (.pick t8 t12 vF)]) (.cond t13 .skip (.cn [0] (.exit 0)))) (.block 1 (rg 0 [oM 14 t0,oP 15 (.sub none t14 (some (vI 1)) none),oM 0 t15]))))
def zda_q:IQ:=(.seq (rg 4 [oP 4 (.mv (.v (.string ⟨#[]⟩)))]) (.seq (.block 0 (.cn [0,1] (.sub 0 zda_b0))) (.seq (rg 4 [oM 16 t0,oM 4 t16]) (.cn [4] .ret))))
theorem zda_chk:chk Tryz.prog 85 []=some (zda_q.erase,[.tmp 4],17):=by kernel_rfl
def zda_p0_step (s:BA) (c:Int):Option (BA ⊕ BA) :=
 gd ((decide ((0:Int)<(s.size:Int)))=true→0≤(0:Int)∧(0:Int)<s.size) <|
 bif ((decide ((0:Int)<(s.size:Int))) && (decide ((bAt s (0:Int))=c))) then (
  gd (0≤(1:Int)∧(1:Int)≤(s.size:Int)∧(s.size:Int)≤s.size) <|
  some (.inl (s.extract 1 s.size)))
 else (
  some (.inr s))
def zda_p0 (s:BA) (c:Int):Option BA :=
 qA0 (fun x:BA=>zda_p0_step x c) s
def zda_s (s:BA) (c:Int):Option BA :=
 (zda_p0 s c).bind fun o1 =>
 some o1
def zda_G:Nat→Option CQ:=tblQ []
theorem zda_Gok:∀f C,zda_G f=some C→qAg Tryz.prog f C:=fun f C h=>by cases h
def zda_d0:=(dQS (qAb (dSO 0 dS) (qAb (dSO 1 (dI .u8)) dNil)) dNil)
def zda_l0:SubQ:=mkL zda_d0 (fun x=>zda_p0 x.1.1 x.1.2.1) fun x r R kn kx kr=>kx 0 ⟨[sL 0 (.vS r)],[],[]⟩
def zda_L:Nat→SubQ:=tblL [(0,zda_l0)]
theorem zda_sub0:qA4 zda_L zda_G 0 5 17 0 zda_b0:=qAr (show zda_L 0=zda_l0 from by kernel_rfl) fun x R kn kx kr=>qAo (step:=fun y=>zda_p0_step y x.1.2.1) (enc:=fun (y:BA)=>zda_d0.e ((y,x.1.2),x.2)) (fun y=>by kernel_rfl) (fun y ki=>by simp only [zda_p0_step,-eq_self,qAd,qAf,obA,obS,slL,slR,qAc]; kernel_rfl) x.1.1
theorem zda_subs:qAn zda_L zda_G 0 5 17 zda_q:=qAk (show qAq zda_L zda_G 0 5 17 [(0,zda_b0)] from ⟨zda_sub0,tV⟩)
def zda_da:=(qAb (dVC (dCO dS)) (qAb (dVC (dCO (dI .u8))) dNil))
def zda_db:=(dNil:Dec Unit (List SB))
def zda_c:CS:=mkC zda_da zda_db (fun x y=>zda_s x.1 x.2.1) (fun x y r=>.c (.o (.vS r))) fun x y r=>[]
theorem zda_val:qAl Tryz.prog 85 zda_c:=qAm zda_chk 5 zda_Gok 0 (fun x=>Nat.le_of_ble_eq_true rfl) (fun y=>rfl) zda_subs fun x y=>by
 simp only [zda_s,-eq_self,qAd,qAf,obA,obS,slL,slR,qAc];kernel_rfl
def zda_w:CQ:=qCj [] zda_c
theorem zda_ok:qAg Tryz.prog 85 zda_w:=qAx zda_val
def zcy_q:IQ:=(.seq (rg 4 [oP 4 (.mv (.v (.string ⟨#[]⟩)))]) (.seq (.seq (rg 12 [oM 7 t0,oP 8 (.bi .eql t7 (.v (.string ⟨#[]⟩))),oM 9 t8,oE 10 (.mv t1) 9,oE 11 (.bi .eql t10 (.v (.string ⟨#[]⟩))) 9,oP 12 (.pick t9 vT t11)]) (.cond t12 (.seq (rg 4 [oM 13 t0,oM 4 t13]) (.cn [4] .ret)) .skip)) (.seq (.seq (rg 21 [oM 14 t1,oP 15 (.lenS t14),oP 16 (.bi .eql t15 (vI 1)),oM 17 t16,oF 18 (.mv t1) 17,oF 19 (.index t18 (vI 0)) 17,oF 20 (.bi .lss t19 (vC 128)) 17,oP 21 (.pick t17 t20 vF)]) (.cond t21 (.seq (rg 4 [oM 22 t0,oM 23 t1,oP 24 (.index t23 (vI 0)),oP 25 (.call 85 [t22,t24]),oM 4 t25]) (.cn [4] .ret)) .skip)) (.seq (.seq (rg 6 [oM 27 t1,oP 28 (.call 86 [t27]),oM 26 t28,oP 29 (.extract t26 0),oP 30 (.extract t26 1),oP 5 (.alloc 126 [.bool false,.bool false,.bool false,.bool false,.bool false,.bool false,.bool false,.bool false,.bool false,.bool false,.bool false,.bool false,.bool false,.bool false,.bool false,.bool false,.bool false,.bool false,.bool false,.bool false,.bool false,.bool false,.bool false,.bool false,.bool false,.bool false,.bool false,.bool false,.bool false,.bool false,.bool false,.bool false,.bool false,.bool false,.bool false,.bool false,.bool false,.bool false,.bool false,.bool false,.bool false,.bool false,.bool false,.bool false,.bool false,.bool false,.bool false,.bool false,.bool false,.bool false,.bool false,.bool false,.bool false,.bool false,.bool false,.bool false,.bool false,.bool false,.bool false,.bool false,.bool false,.bool false,.bool false,.bool false,.bool false,.bool false,.bool false,.bool false,.bool false,.bool false,.bool false,.bool false,.bool false,.bool false,.bool false,.bool false,.bool false,.bool false,.bool false,.bool false,.bool false,.bool false,.bool false,.bool false,.bool false,.bool false,.bool false,.bool false,.bool false,.bool false,.bool false,.bool false,.bool false,.bool false,.bool false,.bool false,.bool false,.bool false,.bool false,.bool false,.bool false,.bool false,.bool false,.bool false,.bool false,.bool false,.bool false,.bool false,.bool false,.bool false,.bool false,.bool false,.bool false,.bool false,.bool false,.bool false,.bool false,.bool false,.bool false,.bool false,.bool false,.bool false,.bool false,.bool false,.bool false,.bool false,.bool false,.bool false,.bool false,.bool false,.bool false,.bool false,.bool false,.bool false,.bool false,.bool false,.bool false,.bool false,.bool false,.bool false,.bool false,.bool false,.bool false,.bool false,.bool false,.bool false,.bool false,.bool false,.bool false,.bool false,.bool false,.bool false,.bool false,.bool false,.bool false,.bool false,.bool false,.bool false,.bool false,.bool false,.bool false,.bool false,.bool false,.bool false,.bool false,.bool false,.bool false,.bool false,.bool false,.bool false,.bool false,.bool false,.bool false,.bool false,.bool false,.bool false,.bool false,.bool false,.bool false,.bool false,.bool false,.bool false,.bool false,.bool false,.bool false,.bool false,.bool false,.bool false,.bool false,.bool false,.bool false,.bool false,.bool false,.bool false,.bool false,.bool false,.bool false,.bool false,.bool false,.bool false,.bool false,.bool false,.bool false,.bool false,.bool false,.bool false,.bool false,.bool false,.bool false,.bool false,.bool false,.bool false,.bool false,.bool false,.bool false,.bool false,.bool false,.bool false,.bool false,.bool false,.bool false,.bool false,.bool false,.bool false,.bool false,.bool false,.bool false,.bool false,.bool false,.bool false,.bool false,.bool false,.bool false,.bool false,.bool false,.bool false,.bool false,.bool false,.bool false,.bool false,.bool false,.bool false,.bool false,.bool false,.bool false,.bool false,.bool false,.bool false,.bool false,.bool false,.bool false,.bool false,.bool false,.bool false,.bool false,.bool false]),oN (.store 256 t5 t29),oM 6 t30]) (.seq (rg 31 [oM 31 t6]) (.cond t31 (.seq (rg 4 [oM 32 t0,oP 33 (.call 87 [t32,t5]),oM 4 t33]) (.cn [4] .ret)) .skip))) (.seq (rg 4 [oM 34 t0,oM 35 t1,oP 36 (.call 88 [t34,t35]),oM 4 t36]) (.cn [4] .ret))))))
theorem zcy_chk:chk Tryz.prog 80 []=some (zcy_q.erase,[.tmp 4],37):=by kernel_rfl
def zcy_s (s cutset:BA):Option BA :=
 bif ((decide (s=(⟨#[]⟩:BA))) || (decide (cutset=(⟨#[]⟩:BA)))) then (
  some s)
 else (
  gd ((decide ((cutset.size:Int)=(1:Int)))=true→0≤(0:Int)∧(0:Int)<cutset.size) <|
  bif ((decide ((cutset.size:Int)=(1:Int))) && (decide ((bAt cutset (0:Int))<(128:Int)))) then (
   gd (0≤(0:Int)∧(0:Int)<cutset.size) <|
   (zda_s s (bAt cutset (0:Int))).bind fun r1 =>
   some r1)
  else (
   none))
def zcy_G:Nat→Option CQ:=tblQ [(85,zda_w)]
theorem zcy_Gok:∀f C,zcy_G f=some C→qAg Tryz.prog f C:=qAj ⟨zda_ok,tV⟩
def zcy_L:Nat→SubQ:=tblL []
theorem zcy_subs:qAn zcy_L zcy_G 0 7 37 zcy_q:=qAk (show qAq zcy_L zcy_G 0 7 37 [] from tV)
def zcy_da:=(qAb (dVC (dCO dS)) (qAb (dVC (dCO dS)) dNil))
def zcy_db:=(dNil:Dec Unit (List SB))
def zcy_c:CS:=mkC zcy_da zcy_db (fun x y=>zcy_s x.1 x.2.1) (fun x y r=>.c (.o (.vS r))) fun x y r=>[]
theorem zcy_val:qAl Tryz.prog 80 zcy_c:=qAm zcy_chk 7 zcy_Gok 0 (fun x=>Nat.le_of_ble_eq_true rfl) (fun y=>rfl) zcy_subs fun x y=>by
 simp only [zcy_s,-eq_self,qAd,qAf,obA,obS,slL,slR,qAc];kernel_rfl
def zcy_w:CQ:=qCj [] zcy_c
theorem zcy_ok:qAg Tryz.prog 80 zcy_w:=qAx zcy_val
def zdb_b0:IQ:=(.loop [0,1] (.seq (.seq (rg 16 [oM 5 t0,oP 6 (.lenS t5),oP 7 (.bi .gtr t6 (vI 0)),oM 8 t7,oF 9 (.mv t0) 8,oF 10 (.mv t0) 8,oF 11 (.lenS t10) 8,oF 12 (.bi .sub t11 (vI 1)) 8,oF 13 (.index t9 t12) 8,oF 14 (.mv t1) 8,oF 15 (.bi .eql t13 t14) 8,oP 16 (.pick t8 t15 vF)]) (.cond t16 .skip (.cn [0] (.exit 0)))) (.block 1 (rg 0 [oM 17 t0,oM 18 t0,oP 19 (.lenS t18),oP 20 (.bi .sub t19 (vI 1)),oP 21 (.sub none t17 none (some t20)),oM 0 t21]))))
def zdb_q:IQ:=(.seq (rg 4 [oP 4 (.mv (.v (.string ⟨#[]⟩)))]) (.seq (.block 0 (.cn [0,1] (.sub 0 zdb_b0))) (.seq (rg 4 [oM 22 t0,oM 4 t22]) (.cn [4] .ret))))
theorem zdb_chk:chk Tryz.prog 89 []=some (zdb_q.erase,[.tmp 4],23):=by kernel_rfl
def zdb_p0_step (s:BA) (c:Int):Option (BA ⊕ BA) :=
 gd ((decide ((0:Int)<(s.size:Int)))=true→qAe ((s.size:Int) - (1:Int))) <|
 gd ((decide ((0:Int)<(s.size:Int)))=true→0≤((s.size:Int) - (1:Int))∧((s.size:Int) - (1:Int))<s.size) <|
 bif ((decide ((0:Int)<(s.size:Int))) && (decide ((bAt s ((s.size:Int) - (1:Int)))=c))) then (
  gd (qAe ((s.size:Int) - (1:Int))) <|
  gd (0≤(0:Int)∧(0:Int)≤((s.size:Int) - (1:Int))∧((s.size:Int) - (1:Int))≤s.size) <|
  some (.inl (s.extract 0 (Int.toNat ((s.size:Int) - (1:Int))))))
 else (
  some (.inr s))
def zdb_p0 (s:BA) (c:Int):Option BA :=
 qA0 (fun x:BA=>zdb_p0_step x c) s
def zdb_s (s:BA) (c:Int):Option BA :=
 (zdb_p0 s c).bind fun o1 =>
 some o1
def zdb_G:Nat→Option CQ:=tblQ []
theorem zdb_Gok:∀f C,zdb_G f=some C→qAg Tryz.prog f C:=fun f C h=>by cases h
def zdb_d0:=(dQS (qAb (dSO 0 dS) (qAb (dSO 1 (dI .u8)) dNil)) dNil)
def zdb_l0:SubQ:=mkL zdb_d0 (fun x=>zdb_p0 x.1.1 x.1.2.1) fun x r R kn kx kr=>kx 0 ⟨[sL 0 (.vS r)],[],[]⟩
def zdb_L:Nat→SubQ:=tblL [(0,zdb_l0)]
theorem zdb_sub0:qA4 zdb_L zdb_G 0 5 23 0 zdb_b0:=qAr (show zdb_L 0=zdb_l0 from by kernel_rfl) fun x R kn kx kr=>qAo (step:=fun y=>zdb_p0_step y x.1.2.1) (enc:=fun (y:BA)=>zdb_d0.e ((y,x.1.2),x.2)) (fun y=>by kernel_rfl) (fun y ki=>by simp only [zdb_p0_step,-eq_self,qAd,qAf,obA,obS,slL,slR,qAc]; kernel_rfl) x.1.1
theorem zdb_subs:qAn zdb_L zdb_G 0 5 23 zdb_q:=qAk (show qAq zdb_L zdb_G 0 5 23 [(0,zdb_b0)] from ⟨zdb_sub0,tV⟩)
def zdb_da:=(qAb (dVC (dCO dS)) (qAb (dVC (dCO (dI .u8))) dNil))
def zdb_db:=(dNil:Dec Unit (List SB))
def zdb_c:CS:=mkC zdb_da zdb_db (fun x y=>zdb_s x.1 x.2.1) (fun x y r=>.c (.o (.vS r))) fun x y r=>[]
theorem zdb_val:qAl Tryz.prog 89 zdb_c:=qAm zdb_chk 5 zdb_Gok 0 (fun x=>Nat.le_of_ble_eq_true rfl) (fun y=>rfl) zdb_subs fun x y=>by
 simp only [zdb_s,-eq_self,qAd,qAf,obA,obS,slL,slR,qAc];kernel_rfl
def zdb_w:CQ:=qCj [] zdb_c
theorem zdb_ok:qAg Tryz.prog 89 zdb_w:=qAx zdb_val
def zcz_q:IQ:=(.seq (rg 4 [oP 4 (.mv (.v (.string ⟨#[]⟩)))]) (.seq (.seq (rg 12 [oM 7 t0,oP 8 (.bi .eql t7 (.v (.string ⟨#[]⟩))),oM 9 t8,oE 10 (.mv t1) 9,oE 11 (.bi .eql t10 (.v (.string ⟨#[]⟩))) 9,oP 12 (.pick t9 vT t11)]) (.cond t12 (.seq (rg 4 [oM 13 t0,oM 4 t13]) (.cn [4] .ret)) .skip)) (.seq (.seq (rg 21 [oM 14 t1,oP 15 (.lenS t14),oP 16 (.bi .eql t15 (vI 1)),oM 17 t16,oF 18 (.mv t1) 17,oF 19 (.index t18 (vI 0)) 17,oF 20 (.bi .lss t19 (vC 128)) 17,oP 21 (.pick t17 t20 vF)]) (.cond t21 (.seq (rg 4 [oM 22 t0,oM 23 t1,oP 24 (.index t23 (vI 0)),oP 25 (.call 89 [t22,t24]),oM 4 t25]) (.cn [4] .ret)) .skip)) (.seq (.seq (rg 6 [oM 27 t1,oP 28 (.call 86 [t27]),oM 26 t28,oP 29 (.extract t26 0),oP 30 (.extract t26 1),oP 5 (.alloc 126 [.bool false,.bool false,.bool false,.bool false,.bool false,.bool false,.bool false,.bool false,.bool false,.bool false,.bool false,.bool false,.bool false,.bool false,.bool false,.bool false,.bool false,.bool false,.bool false,.bool false,.bool false,.bool false,.bool false,.bool false,.bool false,.bool false,.bool false,.bool false,.bool false,.bool false,.bool false,.bool false,.bool false,.bool false,.bool false,.bool false,.bool false,.bool false,.bool false,.bool false,.bool false,.bool false,.bool false,.bool false,.bool false,.bool false,.bool false,.bool false,.bool false,.bool false,.bool false,.bool false,.bool false,.bool false,.bool false,.bool false,.bool false,.bool false,.bool false,.bool false,.bool false,.bool false,.bool false,.bool false,.bool false,.bool false,.bool false,.bool false,.bool false,.bool false,.bool false,.bool false,.bool false,.bool false,.bool false,.bool false,.bool false,.bool false,.bool false,.bool false,.bool false,.bool false,.bool false,.bool false,.bool false,.bool false,.bool false,.bool false,.bool false,.bool false,.bool false,.bool false,.bool false,.bool false,.bool false,.bool false,.bool false,.bool false,.bool false,.bool false,.bool false,.bool false,.bool false,.bool false,.bool false,.bool false,.bool false,.bool false,.bool false,.bool false,.bool false,.bool false,.bool false,.bool false,.bool false,.bool false,.bool false,.bool false,.bool false,.bool false,.bool false,.bool false,.bool false,.bool false,.bool false,.bool false,.bool false,.bool false,.bool false,.bool false,.bool false,.bool false,.bool false,.bool false,.bool false,.bool false,.bool false,.bool false,.bool false,.bool false,.bool false,.bool false,.bool false,.bool false,.bool false,.bool false,.bool false,.bool false,.bool false,.bool false,.bool false,.bool false,.bool false,.bool false,.bool false,.bool false,.bool false,.bool false,.bool false,.bool false,.bool false,.bool false,.bool false,.bool false,.bool false,.bool false,.bool false,.bool false,.bool false,.bool false,.bool false,.bool false,.bool false,.bool false,.bool false,.bool false,.bool false,.bool false,.bool false,.bool false,.bool false,.bool false,.bool false,.bool false,.bool false,.bool false,.bool false,.bool false,.bool false,.bool false,.bool false,.bool false,.bool false,.bool false,.bool false,.bool false,.bool false,.bool false,.bool false,.bool false,.bool false,.bool false,.bool false,.bool false,.bool false,.bool false,.bool false,.bool false,.bool false,.bool false,.bool false,.bool false,.bool false,.bool false,.bool false,.bool false,.bool false,.bool false,.bool false,.bool false,.bool false,.bool false,.bool false,.bool false,.bool false,.bool false,.bool false,.bool false,.bool false,.bool false,.bool false,.bool false,.bool false,.bool false,.bool false,.bool false,.bool false,.bool false,.bool false,.bool false,.bool false,.bool false,.bool false,.bool false,.bool false,.bool false,.bool false,.bool false,.bool false,.bool false,.bool false,.bool false,.bool false,.bool false,.bool false,.bool false]),oN (.store 256 t5 t29),oM 6 t30]) (.seq (rg 31 [oM 31 t6]) (.cond t31 (.seq (rg 4 [oM 32 t0,oP 33 (.call 90 [t32,t5]),oM 4 t33]) (.cn [4] .ret)) .skip))) (.seq (rg 4 [oM 34 t0,oM 35 t1,oP 36 (.call 91 [t34,t35]),oM 4 t36]) (.cn [4] .ret))))))
theorem zcz_chk:chk Tryz.prog 81 []=some (zcz_q.erase,[.tmp 4],37):=by kernel_rfl
def zcz_s (s cutset:BA):Option BA :=
 bif ((decide (s=(⟨#[]⟩:BA))) || (decide (cutset=(⟨#[]⟩:BA)))) then (
  some s)
 else (
  gd ((decide ((cutset.size:Int)=(1:Int)))=true→0≤(0:Int)∧(0:Int)<cutset.size) <|
  bif ((decide ((cutset.size:Int)=(1:Int))) && (decide ((bAt cutset (0:Int))<(128:Int)))) then (
   gd (0≤(0:Int)∧(0:Int)<cutset.size) <|
   (zdb_s s (bAt cutset (0:Int))).bind fun r1 =>
   some r1)
  else (
   none))
def zcz_G:Nat→Option CQ:=tblQ [(89,zdb_w)]
theorem zcz_Gok:∀f C,zcz_G f=some C→qAg Tryz.prog f C:=qAj ⟨zdb_ok,tV⟩
def zcz_L:Nat→SubQ:=tblL []
theorem zcz_subs:qAn zcz_L zcz_G 0 7 37 zcz_q:=qAk (show qAq zcz_L zcz_G 0 7 37 [] from tV)
def zcz_da:=(qAb (dVC (dCO dS)) (qAb (dVC (dCO dS)) dNil))
def zcz_db:=(dNil:Dec Unit (List SB))
def zcz_c:CS:=mkC zcz_da zcz_db (fun x y=>zcz_s x.1 x.2.1) (fun x y r=>.c (.o (.vS r))) fun x y r=>[]
theorem zcz_val:qAl Tryz.prog 81 zcz_c:=qAm zcz_chk 7 zcz_Gok 0 (fun x=>Nat.le_of_ble_eq_true rfl) (fun y=>rfl) zcz_subs fun x y=>by
 simp only [zcz_s,-eq_self,qAd,qAf,obA,obS,slL,slR,qAc];kernel_rfl
def zcz_w:CQ:=qCj [] zcz_c
theorem zcz_ok:qAg Tryz.prog 81 zcz_w:=qAx zcz_val
def zab_b0:IQ:=(.join [] [0,4,6,7] (.seq (rg 8 [oM 29 t0,oP 30 (.call 79 [t29]),oM 8 t30]) (.seq (.seq (rg 41 [oM 31 t8,oP 32 (.bi .eql t31 (vI 0)),oM 33 t32,oE 34 (.mv t8) 33,oE 35 (.bi .gtr t34 (vI 1)) 33,oE 36 (.mv t35) 33,oF 37 (.mv t0) 36,oF 38 (.index t37 (vI 0)) 36,oF 39 (.bi .eql t38 (vC 48)) 36,oE 40 (.pick t36 t39 vF) 33,oP 41 (.pick t33 vT t40)]) (.cond t41 (.seq (rg 5 [oP 42 (.load (some 7) t6),oN (.store 7 t4 t42),oP 5 (.mv vF)]) (.cn [4,5] .ret)) .skip)) (.reg 0 (some [0,1,2,3,4,5,6,7,8]) [oM 43 t0,oM 44 t8,oP 45 (.sub none t43 none (some t44)),oM 46 t0,oM 47 t8,oP 48 (.sub none t46 (some t47) none),oP 49 (.faddr 1 t6),oN (.store 1 t49 t45),oM 0 t48]))))
def zab_b1:IQ:=(.join [] [0,4,6,7] (.seq (rg 10 [oM 51 t0,oP 52 (.call 78 [t51,(.v (.string ⟨#[46]⟩))]),oM 50 t52,oP 53 (.extract t50 0),oP 54 (.extract t50 1),oM 9 t53,oM 10 t54]) (.seq (rg 55 [oM 55 t10]) (.cond t55 (.seq (rg 11 [oM 56 t9,oP 57 (.call 79 [t56]),oM 11 t57]) (.seq (.seq (rg 59 [oM 58 t11,oP 59 (.bi .eql t58 (vI 0))]) (.cond t59 (.seq (rg 5 [oP 60 (.load (some 7) t6),oN (.store 7 t4 t60),oP 5 (.mv vF)]) (.cn [4,5] .ret)) .skip)) (.reg 0 (some [0,1,2,3,4,5,6,7,8,9]) [oM 61 t9,oM 62 t11,oP 63 (.sub none t61 none (some t62)),oM 64 t9,oM 65 t11,oP 66 (.sub none t64 (some t65) none),oP 67 (.faddr 4 t6),oN (.store 1 t67 vF),oM 7 t63,oM 0 t66]))) .skip))))
def zab_b3:IQ:=(.join [] [0,4,6,7] (.seq (.seq (rg 104 [oM 96 t0,oP 97 (.bi .eql t96 (.v (.string ⟨#[]⟩))),oM 98 t97,oE 99 (.mv t0) 98,oE 100 (.call 79 [t99]) 98,oE 101 (.mv t0) 98,oE 102 (.lenS t101) 98,oE 103 (.bi .neq t100 t102) 98,oP 104 (.pick t98 vT t103)]) (.cond t104 (.seq (rg 5 [oP 105 (.load (some 7) t6),oN (.store 7 t4 t105),oP 5 (.mv vF)]) (.cn [4,5] .ret)) .skip)) (rg 0 [oM 106 t0,oP 107 (.call 80 [t106,(.v (.string ⟨#[48]⟩))]),oP 108 (.faddr 4 t6),oN (.store 1 t108 vF),oP 109 (.faddr 6 t6),oN (.store 1 t109 t107),oP 0 (.mv (.v (.string ⟨#[]⟩)))])))
def zab_b2:IQ:=(.seq (.seq (rg 75 [oM 68 t0,oP 69 (.bi .neq t68 (.v (.string ⟨#[]⟩))),oM 70 t69,oF 71 (.mv t0) 70,oF 72 (.index t71 (vI 0)) 70,oF 73 (.bi .or t72 (vC 32)) 70,oF 74 (.bi .eql t73 (vC 101)) 70,oP 75 (.pick t70 t74 vF)]) (.cond t75 (.seq (rg 0 [oM 76 t0,oP 77 (.sub none t76 (some (vI 1)) none),oM 0 t77]) (.seq (.seq (rg 89 [oM 78 t0,oP 79 (.bi .neq t78 (.v (.string ⟨#[]⟩))),oM 80 t79,oF 81 (.mv t0) 80,oF 82 (.index t81 (vI 0)) 80,oF 83 (.bi .eql t82 (vC 43)) 80,oF 84 (.mv t83) 80,oE 85 (.mv t0) 84,oE 86 (.index t85 (vI 0)) 84,oE 87 (.bi .eql t86 (vC 45)) 84,oF 88 (.pick t84 vT t87) 80,oP 89 (.pick t80 t88 vF)]) (.cond t89 (.reg 0 (some [0,1,2,3,4,5,6,7]) [oM 90 t0,oP 91 (.index t90 (vI 0)),oP 92 (.bi .eql t91 (vC 45)),oM 93 t0,oP 94 (.sub none t93 (some (vI 1)) none),oP 95 (.faddr 5 t6),oN (.store 1 t95 t92),oM 0 t94]) .skip)) (.cn [0,4,6,7] (.sub 3 zab_b3)))) .skip)) (.cn [0,4,6,7] (.exit 0)))
def zab_b4:IQ:=(.seq (rg 12 [oP 110 (.faddr 1 t6),oP 111 (.load none t110),oM 112 t7,oP 113 (.bi .add t111 t112),oM 12 t113]) (.seq (rg 0 [oM 114 t12,oP 115 (.call 80 [t114,(.v (.string ⟨#[48]⟩))]),oP 116 (.faddr 2 t6),oN (.store 1 t116 t115)]) (.seq (rg 0 [oP 117 (.faddr 1 t6),oP 118 (.load none t117),oP 119 (.lenS t118),oM 120 t12,oP 121 (.lenS t120),oP 122 (.faddr 2 t6),oP 123 (.load none t122),oP 124 (.lenS t123),oP 125 (.bi .sub t121 t124),oP 126 (.bi .sub t119 t125),oP 127 (.faddr 3 t6),oN (.store 1 t127 t126)]) (.seq (rg 0 [oP 128 (.faddr 2 t6),oP 129 (.load none t128),oP 130 (.call 81 [t129,(.v (.string ⟨#[48]⟩))]),oP 131 (.faddr 2 t6),oN (.store 1 t131 t130)]) (.seq (.seq (rg 134 [oP 132 (.faddr 6 t6),oP 133 (.load none t132),oP 134 (.bi .eql t133 (.v (.string ⟨#[]⟩)))]) (.cond t134 (rg 0 [oP 135 (.faddr 5 t6),oN (.store 1 t135 vF)]) .skip)) (.seq (rg 5 [oP 136 (.load (some 7) t6),oM 137 t0,oP 138 (.bi .eql t137 (.v (.string ⟨#[]⟩))),oN (.store 7 t4 t136),oM 5 t138]) (.cn [4,5] .ret)))))))
def zab_q:IQ:=(.seq (rg 5 [oP 4 (.alloc 108 [.bool false,.string ⟨#[]⟩,.string ⟨#[]⟩,.int .i64 0,.bool false,.bool false,.string ⟨#[]⟩]),oP 5 (.mv vF)]) (.seq (rg 0 [oP 13 (.build [.bool false,.string ⟨#[]⟩,.string ⟨#[]⟩,.int .i64 0,.bool false,.bool false,.string ⟨#[]⟩] [(4,1,vT)]),oP 6 (.alloc 108 [.bool false,.string ⟨#[]⟩,.string ⟨#[]⟩,.int .i64 0,.bool false,.bool false,.string ⟨#[]⟩]),oN (.store 7 t6 t13)]) (.seq (rg 7 [oP 7 (.mv (.v (.string ⟨#[]⟩)))]) (.seq (.seq (rg 14 [oM 14 t1]) (.block 0 (.seq (.block 4 (.seq (.block 3 (.seq (.block 2 (.seq (.block 1 (.seq (.seq (.seq (rg 15 [oP 16 (.bi .eql t14 (vI 0)),oM 15 t16]) (.cond t15 (.exit 1) .skip)) (.seq (.seq (rg 17 [oP 18 (.bi .eql t14 (vI 1)),oM 17 t18]) (.cond t17 (.exit 2) .skip)) (.seq (.seq (rg 19 [oP 20 (.bi .eql t14 (vI 2)),oM 19 t20]) (.cond t19 (.exit 3) .skip)) (.seq (rg 21 [oP 22 (.bi .eql t14 (vI 3)),oM 21 t22]) (.cond t21 (.exit 4) .skip))))) (.exit 0))) (rg 0 [oM 24 t0,oP 25 (.call 78 [t24,(.v (.string ⟨#[45]⟩))]),oM 23 t25,oP 26 (.extract t23 0),oP 27 (.extract t23 1),oM 0 t26,oP 28 (.faddr 0 t6),oN (.store 1 t28 t27)]))) (.cn [0,4,6,7] (.sub 0 zab_b0)))) (.cn [0,4,6,7] (.sub 1 zab_b1)))) (.cn [0,4,6,7] (.sub 2 zab_b2))))) (.cn [0,4,6,7] (.sub 4 zab_b4))))))
theorem zab_chk:chk Tryz.prog 73 []=some (zab_q.erase,[.cell 4 (some 7),.tmp 5],139):=by kernel_rfl
def zab_p0 (s:BA):Option (Bool ⊕ (BA × BA)) :=
 (zac_s s).bind fun r2 =>
 gd ((decide ((1:Int)<r2))=true→(decide (r2=(0:Int)))=false→0≤(0:Int)∧(0:Int)<s.size) <|
 bif ((decide (r2=(0:Int))) || ((decide ((1:Int)<r2)) && (decide ((bAt s (0:Int))=(48:Int))))) then (
  some (.inl false))
 else (
  gd (0≤(0:Int)∧(0:Int)≤r2∧r2≤s.size) <|
  gd (0≤r2∧r2≤(s.size:Int)∧(s.size:Int)≤s.size) <|
  some (.inr ((s.extract (Int.toNat r2) s.size),(s.extract 0 (Int.toNat r2)))))
def zab_p1 (s behind:BA) (n_plain:Bool):Option (Bool ⊕ (BA × BA × Bool)) :=
 (zcx_s s (⟨#[46]⟩:BA)).bind fun r4 =>
 bif r4.2 then (
  (zac_s r4.1).bind fun r5 =>
  bif decide (r5=(0:Int)) then (
   some (.inl false))
  else (
   gd (0≤(0:Int)∧(0:Int)≤r5∧r5≤r4.1.size) <|
   gd (0≤r5∧r5≤(r4.1.size:Int)∧(r4.1.size:Int)≤r4.1.size) <|
   some (.inr ((r4.1.extract (Int.toNat r5) r4.1.size),(r4.1.extract 0 (Int.toNat r5)),false))))
 else (
  some (.inr (s,behind,n_plain)))
def zab_p3 (s:BA):Option (Bool ⊕ (BA × Bool × BA)) :=
 bif decide (s=(⟨#[]⟩:BA)) then (
  some (.inl false))
 else (
  (zac_s s).bind fun r7 =>
  bif (!decide (r7=(s.size:Int))) then (
   some (.inl false))
  else (
   (zcy_s s (⟨#[48]⟩:BA)).bind fun r8 =>
   some (.inr ((⟨#[]⟩:BA),false,r8))))
def zab_p2 (s:BA) (n_plain n_down:Bool) (n_exp:BA):Option ((Bool × Bool) ⊕ (BA × Bool × Bool × BA)) :=
 gd ((!decide (s=(⟨#[]⟩:BA)))=true→0≤(0:Int)∧(0:Int)<s.size) <|
 bif ((!decide (s=(⟨#[]⟩:BA))) && (decide ((qBv .u8 (bAt s (0:Int)) (32:Int))=(101:Int)))) then (
  gd (0≤(1:Int)∧(1:Int)≤(s.size:Int)∧(s.size:Int)≤s.size) <|
  gd ((!decide ((s.extract 1 s.size)=(⟨#[]⟩:BA)))=true→0≤(0:Int)∧(0:Int)<(s.extract 1 s.size).size) <|
  gd ((decide ((bAt (s.extract 1 s.size) (0:Int))=(43:Int)))=false→(!decide ((s.extract 1 s.size)=(⟨#[]⟩:BA)))=true→0≤(0:Int)∧(0:Int)<(s.extract 1 s.size).size) <|
  bif ((!decide ((s.extract 1 s.size)=(⟨#[]⟩:BA))) && ((decide ((bAt (s.extract 1 s.size) (0:Int))=(43:Int))) || (decide ((bAt (s.extract 1 s.size) (0:Int))=(45:Int))))) then (
   gd (0≤(0:Int)∧(0:Int)<(s.extract 1 s.size).size) <|
   gd (0≤(1:Int)∧(1:Int)≤((s.extract 1 s.size).size:Int)∧((s.extract 1 s.size).size:Int)≤(s.extract 1 s.size).size) <|
   (zab_p3 ((s.extract 1 s.size).extract 1 (s.extract 1 s.size).size)).bind fun o9=>(Sum.elim (fun (o9_0:Bool) =>
    some (.inl (o9_0,decide ((bAt (s.extract 1 s.size) (0:Int))=(45:Int))))) (fun (o9_1:BA × Bool × BA) =>
    some (.inr (o9_1.1,o9_1.2.1,decide ((bAt (s.extract 1 s.size) (0:Int))=(45:Int)),o9_1.2.2)))) o9)
  else (
   (zab_p3 (s.extract 1 s.size)).bind fun o10=>(Sum.elim (fun (o10_0:Bool) =>
    some (.inl (o10_0,n_down))) (fun (o10_1:BA × Bool × BA) =>
    some (.inr (o10_1.1,o10_1.2.1,n_down,o10_1.2.2)))) o10))
 else (
  some (.inr (s,n_plain,n_down,n_exp)))
def zab_p4 (s behind n_whole:BA) (n_down:Bool) (n_exp:BA):Option (Bool × BA × Int × Bool) :=
 gd (n_whole.size+behind.size≤9223372036854775807) <|
 (zcy_s (n_whole++behind) (⟨#[48]⟩:BA)).bind fun r12 =>
 gd (qAe (((n_whole++behind).size:Int) - (r12.size:Int))) <|
 gd (qAe ((n_whole.size:Int) - (((n_whole++behind).size:Int) - (r12.size:Int)))) <|
 (zcz_s r12 (⟨#[48]⟩:BA)).bind fun r13 =>
 bif decide (n_exp=(⟨#[]⟩:BA)) then (
  some (decide (s=(⟨#[]⟩:BA)),r13,((n_whole.size:Int) - (((n_whole++behind).size:Int) - (r12.size:Int))),false))
 else (
  some (decide (s=(⟨#[]⟩:BA)),r13,((n_whole.size:Int) - (((n_whole++behind).size:Int) - (r12.size:Int))),n_down))
def zab_s (s:BA) (part:Int):Option (decimal_number × Bool) :=
 bif decide (part=(0:Int)) then (
  (zcx_s s (⟨#[45]⟩:BA)).bind fun r1 =>
  (zab_p0 r1.1).bind fun o3=>(Sum.elim (fun (o3_0:Bool) =>
   some ((⟨r1.2,(⟨#[]⟩:BA),(⟨#[]⟩:BA),(0:Int),true,false,(⟨#[]⟩:BA)⟩:decimal_number),o3_0)) (fun (o3_1:BA × BA) =>
   (zab_p1 o3_1.1 (⟨#[]⟩:BA) true).bind fun o6=>(Sum.elim (fun (o6_0:Bool) =>
    some ((⟨r1.2,o3_1.2,(⟨#[]⟩:BA),(0:Int),true,false,(⟨#[]⟩:BA)⟩:decimal_number),o6_0)) (fun (o6_1:BA × BA × Bool) =>
    (zab_p2 o6_1.1 o6_1.2.2 false (⟨#[]⟩:BA)).bind fun o11=>(Sum.elim (fun (o11_0:Bool × Bool) =>
     some ((⟨r1.2,o3_1.2,(⟨#[]⟩:BA),(0:Int),o6_1.2.2,o11_0.2,(⟨#[]⟩:BA)⟩:decimal_number),o11_0.1)) (fun (o11_1:BA × Bool × Bool × BA) =>
     (zab_p4 o11_1.1 o6_1.2.1 o3_1.2 o11_1.2.2.1 o11_1.2.2.2).bind fun o14 =>
     some ((⟨r1.2,o3_1.2,o14.2.1,o14.2.2.1,o11_1.2.1,o14.2.2.2,o11_1.2.2.2⟩:decimal_number),o14.1))) o11)) o6)) o3)
 else (
  bif decide (part=(1:Int)) then (
   (zab_p0 s).bind fun o15=>(Sum.elim (fun (o15_0:Bool) =>
    some ((⟨false,(⟨#[]⟩:BA),(⟨#[]⟩:BA),(0:Int),true,false,(⟨#[]⟩:BA)⟩:decimal_number),o15_0)) (fun (o15_1:BA × BA) =>
    (zab_p1 o15_1.1 (⟨#[]⟩:BA) true).bind fun o16=>(Sum.elim (fun (o16_0:Bool) =>
     some ((⟨false,o15_1.2,(⟨#[]⟩:BA),(0:Int),true,false,(⟨#[]⟩:BA)⟩:decimal_number),o16_0)) (fun (o16_1:BA × BA × Bool) =>
     (zab_p2 o16_1.1 o16_1.2.2 false (⟨#[]⟩:BA)).bind fun o17=>(Sum.elim (fun (o17_0:Bool × Bool) =>
      some ((⟨false,o15_1.2,(⟨#[]⟩:BA),(0:Int),o16_1.2.2,o17_0.2,(⟨#[]⟩:BA)⟩:decimal_number),o17_0.1)) (fun (o17_1:BA × Bool × Bool × BA) =>
      (zab_p4 o17_1.1 o16_1.2.1 o15_1.2 o17_1.2.2.1 o17_1.2.2.2).bind fun o18 =>
      some ((⟨false,o15_1.2,o18.2.1,o18.2.2.1,o17_1.2.1,o18.2.2.2,o17_1.2.2.2⟩:decimal_number),o18.1))) o17)) o16)) o15)
  else (
   bif decide (part=(2:Int)) then (
    (zab_p1 s (⟨#[]⟩:BA) true).bind fun o19=>(Sum.elim (fun (o19_0:Bool) =>
     some ((⟨false,(⟨#[]⟩:BA),(⟨#[]⟩:BA),(0:Int),true,false,(⟨#[]⟩:BA)⟩:decimal_number),o19_0)) (fun (o19_1:BA × BA × Bool) =>
     (zab_p2 o19_1.1 o19_1.2.2 false (⟨#[]⟩:BA)).bind fun o20=>(Sum.elim (fun (o20_0:Bool × Bool) =>
      some ((⟨false,(⟨#[]⟩:BA),(⟨#[]⟩:BA),(0:Int),o19_1.2.2,o20_0.2,(⟨#[]⟩:BA)⟩:decimal_number),o20_0.1)) (fun (o20_1:BA × Bool × Bool × BA) =>
      (zab_p4 o20_1.1 o19_1.2.1 (⟨#[]⟩:BA) o20_1.2.2.1 o20_1.2.2.2).bind fun o21 =>
      some ((⟨false,(⟨#[]⟩:BA),o21.2.1,o21.2.2.1,o20_1.2.1,o21.2.2.2,o20_1.2.2.2⟩:decimal_number),o21.1))) o20)) o19)
   else (
    bif decide (part=(3:Int)) then (
     (zab_p2 s true false (⟨#[]⟩:BA)).bind fun o22=>(Sum.elim (fun (o22_0:Bool × Bool) =>
      some ((⟨false,(⟨#[]⟩:BA),(⟨#[]⟩:BA),(0:Int),true,o22_0.2,(⟨#[]⟩:BA)⟩:decimal_number),o22_0.1)) (fun (o22_1:BA × Bool × Bool × BA) =>
      (zab_p4 o22_1.1 (⟨#[]⟩:BA) (⟨#[]⟩:BA) o22_1.2.2.1 o22_1.2.2.2).bind fun o23 =>
      some ((⟨false,(⟨#[]⟩:BA),o23.2.1,o23.2.2.1,o22_1.2.1,o23.2.2.2,o22_1.2.2.2⟩:decimal_number),o23.1))) o22)
    else (
     (zab_p4 s (⟨#[]⟩:BA) (⟨#[]⟩:BA) false (⟨#[]⟩:BA)).bind fun o24 =>
     some ((⟨false,(⟨#[]⟩:BA),o24.2.1,o24.2.2.1,true,o24.2.2.2,(⟨#[]⟩:BA)⟩:decimal_number),o24.1)))))
def zab_G:Nat→Option CQ:=tblQ [(78,zcx_w),(79,zac_w),(80,zcy_w),(81,zcz_w)]
theorem zab_Gok:∀f C,zab_G f=some C→qAg Tryz.prog f C:=qAj ⟨zcx_ok,zac_ok,zcy_ok,zcz_ok,tV⟩
def zDGC1:=(qGy 108 (qAb dB (qAb dS (qAb dS (qAb dZ (qAb dB (qAb dB (qAb dS dNil))))))))
def zDGC3:=(qAb (dSO 0 dS) (qAb (dSO 4 (dH 0 0)) (qAb (dSO 6 (dH 1 0)) (qAb (dSO 7 dS) dNil))))
def zDGC5:=(qAb zDGC1 (qAb zDGC1 dNil))
def zab_d0:=(dQS zDGC3 zDGC5)
def zab_l0:SubQ:=mkL zab_d0 (fun x=>zab_p0 x.1.1) fun x r R kn kx kr=>(Sum.elim (fun (r_0:Bool)=>kr ⟨[sL 4 (.hd 0 0),sL 5 (.vB r_0)],[],[.cells 108 [.vB x.2.2.1.1,.vS x.2.2.1.2.1,.vS x.2.2.1.2.2.1,.vI x.2.2.1.2.2.2.1,.vB x.2.2.1.2.2.2.2.1,.vB x.2.2.1.2.2.2.2.2.1,.vS x.2.2.1.2.2.2.2.2.2.1]]⟩) (fun (r_1:BA × BA)=>kn ⟨[sL 0 (.vS r_1.1),sL 4 (.hd 0 0),sL 6 (.hd 1 0),sL 7 (.vS x.1.2.2.2.1)],[],[.cells 108 [.vB x.2.1.1,.vS x.2.1.2.1,.vS x.2.1.2.2.1,.vI x.2.1.2.2.2.1,.vB x.2.1.2.2.2.2.1,.vB x.2.1.2.2.2.2.2.1,.vS x.2.1.2.2.2.2.2.2.1],.cells 108 [.vB x.2.2.1.1,.vS r_1.2,.vS x.2.2.1.2.2.1,.vI x.2.2.1.2.2.2.1,.vB x.2.2.1.2.2.2.2.1,.vB x.2.2.1.2.2.2.2.2.1,.vS x.2.2.1.2.2.2.2.2.2.1]]⟩)) r
def zab_d1:=(dQS zDGC3 zDGC5)
def zab_l1:SubQ:=mkL zab_d1 (fun x=>zab_p1 x.1.1 x.1.2.2.2.1 x.2.2.1.2.2.2.2.1) fun x r R kn kx kr=>(Sum.elim (fun (r_0:Bool)=>kr ⟨[sL 4 (.hd 0 0),sL 5 (.vB r_0)],[],[.cells 108 [.vB x.2.2.1.1,.vS x.2.2.1.2.1,.vS x.2.2.1.2.2.1,.vI x.2.2.1.2.2.2.1,.vB x.2.2.1.2.2.2.2.1,.vB x.2.2.1.2.2.2.2.2.1,.vS x.2.2.1.2.2.2.2.2.2.1]]⟩) (fun (r_1:BA × BA × Bool)=>kn ⟨[sL 0 (.vS r_1.1),sL 4 (.hd 0 0),sL 6 (.hd 1 0),sL 7 (.vS r_1.2.1)],[],[.cells 108 [.vB x.2.1.1,.vS x.2.1.2.1,.vS x.2.1.2.2.1,.vI x.2.1.2.2.2.1,.vB x.2.1.2.2.2.2.1,.vB x.2.1.2.2.2.2.2.1,.vS x.2.1.2.2.2.2.2.2.1],.cells 108 [.vB x.2.2.1.1,.vS x.2.2.1.2.1,.vS x.2.2.1.2.2.1,.vI x.2.2.1.2.2.2.1,.vB r_1.2.2,.vB x.2.2.1.2.2.2.2.2.1,.vS x.2.2.1.2.2.2.2.2.2.1]]⟩)) r
def zab_d3:=(dQS zDGC3 zDGC5)
def zab_l3:SubQ:=mkL zab_d3 (fun x=>zab_p3 x.1.1) fun x r R kn kx kr=>(Sum.elim (fun (r_0:Bool)=>kr ⟨[sL 4 (.hd 0 0),sL 5 (.vB r_0)],[],[.cells 108 [.vB x.2.2.1.1,.vS x.2.2.1.2.1,.vS x.2.2.1.2.2.1,.vI x.2.2.1.2.2.2.1,.vB x.2.2.1.2.2.2.2.1,.vB x.2.2.1.2.2.2.2.2.1,.vS x.2.2.1.2.2.2.2.2.2.1]]⟩) (fun (r_1:BA × Bool × BA)=>kn ⟨[sL 0 (.vS r_1.1),sL 4 (.hd 0 0),sL 6 (.hd 1 0),sL 7 (.vS x.1.2.2.2.1)],[],[.cells 108 [.vB x.2.1.1,.vS x.2.1.2.1,.vS x.2.1.2.2.1,.vI x.2.1.2.2.2.1,.vB x.2.1.2.2.2.2.1,.vB x.2.1.2.2.2.2.2.1,.vS x.2.1.2.2.2.2.2.2.1],.cells 108 [.vB x.2.2.1.1,.vS x.2.2.1.2.1,.vS x.2.2.1.2.2.1,.vI x.2.2.1.2.2.2.1,.vB r_1.2.1,.vB x.2.2.1.2.2.2.2.2.1,.vS r_1.2.2]]⟩)) r
def zab_d2:=(dQS zDGC3 zDGC5)
def zab_l2:SubQ:=mkL zab_d2 (fun x=>zab_p2 x.1.1 x.2.2.1.2.2.2.2.1 x.2.2.1.2.2.2.2.2.1 x.2.2.1.2.2.2.2.2.2.1) fun x r R kn kx kr=>(Sum.elim (fun (r_0:Bool × Bool)=>kr ⟨[sL 4 (.hd 0 0),sL 5 (.vB r_0.1)],[],[.cells 108 [.vB x.2.2.1.1,.vS x.2.2.1.2.1,.vS x.2.2.1.2.2.1,.vI x.2.2.1.2.2.2.1,.vB x.2.2.1.2.2.2.2.1,.vB r_0.2,.vS x.2.2.1.2.2.2.2.2.2.1]]⟩) (fun (r_1:BA × Bool × Bool × BA)=>kx 0 ⟨[sL 0 (.vS r_1.1),sL 4 (.hd 0 0),sL 6 (.hd 1 0),sL 7 (.vS x.1.2.2.2.1)],[],[.cells 108 [.vB x.2.1.1,.vS x.2.1.2.1,.vS x.2.1.2.2.1,.vI x.2.1.2.2.2.1,.vB x.2.1.2.2.2.2.1,.vB x.2.1.2.2.2.2.2.1,.vS x.2.1.2.2.2.2.2.2.1],.cells 108 [.vB x.2.2.1.1,.vS x.2.2.1.2.1,.vS x.2.2.1.2.2.1,.vI x.2.2.1.2.2.2.1,.vB r_1.2.1,.vB r_1.2.2.1,.vS r_1.2.2.2]]⟩)) r
def zab_d4:=(dQS zDGC3 zDGC5)
def zab_l4:SubQ:=mkL zab_d4 (fun x=>zab_p4 x.1.1 x.1.2.2.2.1 x.2.2.1.2.1 x.2.2.1.2.2.2.2.2.1 x.2.2.1.2.2.2.2.2.2.1) fun x r R kn kx kr=>kr ⟨[sL 4 (.hd 0 0),sL 5 (.vB r.1)],[],[.cells 108 [.vB x.2.2.1.1,.vS x.2.2.1.2.1,.vS r.2.1,.vI r.2.2.1,.vB x.2.2.1.2.2.2.2.1,.vB r.2.2.2,.vS x.2.2.1.2.2.2.2.2.2.1]]⟩
def zab_L:Nat→SubQ:=tblL [(0,zab_l0),(1,zab_l1),(3,zab_l3),(2,zab_l2),(4,zab_l4)]
theorem zab_sub0:qA4 zab_L zab_G 0 15 139 0 zab_b0:=qAr (show zab_L 0=zab_l0 from by kernel_rfl) fun x R kn kx kr=>by
 simp only [zab_p0,-eq_self,qAd,qAf,obA,obS,slL,slR,qAc];kernel_rfl
theorem zab_sub1:qA4 zab_L zab_G 0 15 139 1 zab_b1:=qAr (show zab_L 1=zab_l1 from by kernel_rfl) fun x R kn kx kr=>by
 simp only [zab_p1,-eq_self,qAd,qAf,obA,obS,slL,slR,qAc];kernel_rfl
theorem zab_sub3:qA4 zab_L zab_G 0 15 139 3 zab_b3:=qAr (show zab_L 3=zab_l3 from by kernel_rfl) fun x R kn kx kr=>by
 simp only [zab_p3,-eq_self,qAd,qAf,obA,obS,slL,slR,qAc];kernel_rfl
theorem zab_sub2:qA4 zab_L zab_G 0 15 139 2 zab_b2:=qAr (show zab_L 2=zab_l2 from by kernel_rfl) fun x R kn kx kr=>by
 simp only [zab_p2,-eq_self,qAd,qAf,obA,obS,slL,slR,qAc];kernel_rfl
theorem zab_sub4:qA4 zab_L zab_G 0 15 139 4 zab_b4:=qAr (show zab_L 4=zab_l4 from by kernel_rfl) fun x R kn kx kr=>by
 simp only [zab_p4,-eq_self,qAd,qAf,obA,obS,slL,slR,qAc];kernel_rfl
theorem zab_subs:qAn zab_L zab_G 0 15 139 zab_q:=qAk (show qAq zab_L zab_G 0 15 139 [(0,zab_b0),(1,zab_b1),(2,zab_b2),(3,zab_b3),(4,zab_b4)] from ⟨zab_sub0,zab_sub1,zab_sub2,zab_sub3,zab_sub4,tV⟩)
def zab_da:=(qAb (dVC (dCO dS)) (qAb (dVC (dCO dZ)) dNil))
def zab_db:=(dNil:Dec Unit (List SB))
def zab_c:CS:=mkC zab_da zab_db (fun x y=>zab_s x.1 x.2.1) (fun x y r=>.tup [.agg [.vB r.1.minus,.vS r.1.whole,.vS r.1.digits,.vI r.1.point,.vB r.1.plain,.vB r.1.down,.vS r.1.exp_],.o (.vB r.2)]) fun x y r=>[]
theorem zab_val:qAl Tryz.prog 73 zab_c:=qAm zab_chk 15 zab_Gok 0 (fun x=>Nat.le_of_ble_eq_true rfl) (fun y=>rfl) zab_subs fun x y=>by
 simp only [zab_s,-eq_self,qAd,qAf,obA,obS,slL,slR,qAc];kernel_rfl
def zab_w:CQ:=qCj [] zab_c
theorem zab_ok:qAg Tryz.prog 73 zab_w:=qAx zab_val
def zaa_b0:IQ:=(.loop [4,6,23,24] (.seq (rg 25 [oP 25 (.bi .lss t24 t23)]) (.seq (.cond t25 .skip (.cn [4,6] (.exit 0))) (.seq (.block 1 (.seq (rg 7 [oM 26 t24,oM 7 t26]) (.seq (rg 8 [oP 27 (.faddr 1 t4),oP 28 (.load none t27),oM 29 t7,oP 30 (.index t28 t29),oP 31 (.bi .sub t30 (vC 48)),oP 32 (.conv false .u64 t31),oM 8 t32]) (.seq (.seq (rg 37 [oM 33 t6,oM 34 t8,oP 35 (.bi .sub (.v (.int .u64 9223372036854775808)) t34),oP 36 (.bi .quo t35 (.v (.int .u64 10))),oP 37 (.bi .gtr t33 t36)]) (.cond t37 (.seq (rg 3 [oP 2 (.mv (vI 0)),oP 3 (.mv vF)]) (.cn [2,3] .ret)) .skip)) (rg 6 [oM 38 t6,oP 39 (.bi .mul (.v (.int .u64 10)) t38),oM 40 t8,oP 41 (.bi .add t39 t40),oM 6 t41]))))) (rg 24 [oP 42 (.bi .add t24 (vI 1)),oM 24 t42])))))
def zaa_q:IQ:=(.seq (rg 3 [oP 2 (.mv (vI 0)),oP 3 (.mv vF)]) (.seq (rg 5 [oM 10 t0,oP 11 (.call 73 [t10,(vI 0)]),oM 9 t11,oP 12 (.extract t9 0),oP 13 (.extract t9 1),oP 4 (.alloc 108 [.bool false,.string ⟨#[]⟩,.string ⟨#[]⟩,.int .i64 0,.bool false,.bool false,.string ⟨#[]⟩]),oN (.store 7 t4 t12),oM 5 t13]) (.seq (.seq (rg 20 [oM 14 t5,oP 15 (.un .not t14),oM 16 t15,oE 17 (.faddr 4 t4) 16,oE 18 (.load none t17) 16,oE 19 (.un .not t18) 16,oP 20 (.pick t16 vT t19)]) (.cond t20 (.seq (rg 3 [oP 2 (.mv (vI 0)),oP 3 (.mv vF)]) (.cn [2,3] .ret)) .skip)) (.seq (rg 6 [oP 6 (.mv (.v (.int .u64 0)))]) (.seq (.seq (rg 24 [oP 21 (.faddr 1 t4),oP 22 (.load none t21),oP 23 (.lenS t22),oP 24 (.mv (vI 0))]) (.block 0 (.cn [4,6,23,24] (.sub 0 zaa_b0)))) (.seq (.seq (rg 49 [oP 43 (.faddr 0 t4),oP 44 (.load none t43),oP 45 (.un .not t44),oM 46 t45,oF 47 (.mv t6) 46,oF 48 (.bi .eql t47 (.v (.int .u64 9223372036854775808))) 46,oP 49 (.pick t46 t48 vF)]) (.cond t49 (.seq (rg 3 [oP 2 (.mv (vI 0)),oP 3 (.mv vF)]) (.cn [2,3] .ret)) .skip)) (.seq (.seq (rg 51 [oP 50 (.faddr 0 t4),oP 51 (.load none t50)]) (.cond t51 (rg 6 [oM 52 t6,oP 53 (.un .neg t52),oM 6 t53]) .skip)) (.seq (rg 3 [oM 54 t6,oP 55 (.conv true .i64 t54),oM 2 t55,oP 3 (.mv vT)]) (.cn [2,3] .ret)))))))))
theorem zaa_chk:chk Tryz.prog 63 [55]=some (zaa_q.erase,[.tmp 2,.tmp 3],56):=by kernel_rfl
def qB9 (v x23_ x24_:Int) (n_whole:BA):Option ((Int × Int) ⊕ ((Int × Bool) ⊕ Int)) :=
 bif decide (x24_<x23_) then (
  gd (0≤x24_∧x24_<n_whole.size) <|
  gd (0≤(((9223372036854775808:Int) - ((((bAt n_whole x24_) - (48:Int)) % 256) % 18446744073709551616)) % 18446744073709551616)∧(((9223372036854775808:Int) - ((((bAt n_whole x24_) - (48:Int)) % 256) % 18446744073709551616)) % 18446744073709551616)≤18446744073709551615∧1≤(10:Int)) <|
  bif decide (((((9223372036854775808:Int) - ((((bAt n_whole x24_) - (48:Int)) % 256) % 18446744073709551616)) % 18446744073709551616) / (10:Int))<v) then (
   some (.inr (.inl ((0:Int),false))))
  else (
   gd (qAe (x24_+(1:Int))) <|
   some (.inl ((((((10:Int)*v) % 18446744073709551616)+((((bAt n_whole x24_) - (48:Int)) % 256) % 18446744073709551616)) % 18446744073709551616),(x24_+(1:Int))))))
 else (
  some (.inr (.inr v)))
def qEt (v x23_ x24_:Int) (n_whole:BA):Option ((Int × Bool) ⊕ Int) :=
 qA0 (fun x:(Int × Int)=>qB9 x.1 x23_ x.2 n_whole) (v,x24_)
def zaa_s (text:BA):Option (Int × Bool) :=
 (zab_s text (0:Int)).bind fun r3 =>
 bif ((!r3.2) || (!r3.1.plain)) then (
  some ((0:Int),false))
 else (
  (qEt (0:Int) (r3.1.whole.size:Int) (0:Int) r3.1.whole).bind fun o4=>(Sum.elim (fun (o4_0:Int × Bool) =>
   some (o4_0.1,o4_0.2)) (fun (o4_1:Int) =>
   bif ((!r3.1.minus) && (decide (o4_1=(9223372036854775808:Int)))) then (
    some ((0:Int),false))
   else (
    bif r3.1.minus then (
     some (w64 ((0 - o4_1) % 18446744073709551616),true))
    else (
     some (w64 o4_1,true))))) o4)
def zaa_G:Nat→Option CQ:=tblQ [(73,zab_w)]
theorem zaa_Gok:∀f C,zaa_G f=some C→qAg Tryz.prog f C:=qAj ⟨zab_ok,tV⟩
def zaa_d0:=(dQS (qAb (dSO 4 (dH 0 0)) (qAb (dSO 6 (dI .u64)) (qAb (dSO 23 dZ) (qAb (dSO 24 dZ) dNil)))) (qAb zDGC1 dNil))
def zaa_l0:SubQ:=mkL zaa_d0 (fun x=>qEt x.1.2.1 x.1.2.2.1 x.1.2.2.2.1 x.2.1.2.1) fun x r R kn kx kr=>(Sum.elim (fun (r_0:Int × Bool)=>kr ⟨[sL 2 (.vI r_0.1),sL 3 (.vB r_0.2)],[],[]⟩) (fun (r_1:Int)=>kx 0 ⟨[sL 4 (.hd 0 0),(6,[],.c (.o (.val (.int .u64 r_1))))],[],[.cells 108 [.vB x.2.1.1,.vS x.2.1.2.1,.vS x.2.1.2.2.1,.vI x.2.1.2.2.2.1,.vB x.2.1.2.2.2.2.1,.vB x.2.1.2.2.2.2.2.1,.vS x.2.1.2.2.2.2.2.2.1]]⟩)) r
def zaa_L:Nat→SubQ:=tblL [(0,zaa_l0)]
theorem zaa_sub0:qA4 zaa_L zaa_G 0 25 56 0 zaa_b0:=qAr (show zaa_L 0=zaa_l0 from by kernel_rfl) fun x R kn kx kr=>qAo (step:=fun y=>qB9 y.1 x.1.2.2.1 y.2 x.2.1.2.1) (enc:=fun (y:Int × Int)=>zaa_d0.e ((x.1.1,y.1,x.1.2.2.1,y.2,x.1.2.2.2.2),x.2)) (fun y=>by kernel_rfl) (fun y ki=>by simp only [qB9,-eq_self,qAd,qAf,obA,obS,slL,slR,qAc]; kernel_rfl) (x.1.2.1,x.1.2.2.2.1)
theorem zaa_subs:qAn zaa_L zaa_G 0 25 56 zaa_q:=qAk (show qAq zaa_L zaa_G 0 25 56 [(0,zaa_b0)] from ⟨zaa_sub0,tV⟩)
def zaa_da:=(qAb (dVC (dCO dS)) dNil)
def zaa_db:=(dNil:Dec Unit (List SB))
def zaa_c:CS:=mkC zaa_da zaa_db (fun x y=>zaa_s x.1) (fun x y r=>.tup [.o (.vI r.1),.o (.vB r.2)]) fun x y r=>[]
theorem zaa_val:qAl Tryz.prog 63 zaa_c:=qAm zaa_chk 25 zaa_Gok 0 (fun x=>Nat.le_of_ble_eq_true rfl) (fun y=>rfl) zaa_subs fun x y=>by
 simp only [zaa_s,-eq_self,qAd,qAf,obA,obS,slL,slR,qAc];kernel_rfl
def zaa_w:CQ:=qCj [] zaa_c
theorem zaa_ok:qAg Tryz.prog 63 zaa_w:=qAx zaa_val
def zbv_q:IQ:=(.seq (rg 4 [oP 4 (.mv vF)]) (.seq (rg 4 [oM 5 t1,oM 6 t0,oP 7 (.lenS t6),oP 8 (.bi .lss t5 t7),oM 9 t8,oF 10 (.mv t0) 9,oF 11 (.mv t1) 9,oF 12 (.index t10 t11) 9,oF 13 (.bi .geq t12 (vC 48)) 9,oP 14 (.pick t9 t13 vF),oM 15 t14,oF 16 (.mv t0) 15,oF 17 (.mv t1) 15,oF 18 (.index t16 t17) 15,oF 19 (.bi .leq t18 (vC 57)) 15,oP 20 (.pick t15 t19 vF),oM 4 t20]) (.cn [4] .ret)))
theorem zbv_chk:chk Tryz.prog 82 []=some (zbv_q.erase,[.tmp 4],21):=by kernel_rfl
def zbv_s (s:BA) (at_:Int):Option Bool :=
 gd ((decide (at_<(s.size:Int)))=true→0≤at_∧at_<s.size) <|
 gd (((decide (at_<(s.size:Int))) && (decide ((48:Int)≤(bAt s at_))))=true→0≤at_∧at_<s.size) <|
 some (((decide (at_<(s.size:Int))) && (decide ((48:Int)≤(bAt s at_)))) && (decide ((bAt s at_)≤(57:Int))))
def zbv_G:Nat→Option CQ:=tblQ []
theorem zbv_Gok:∀f C,zbv_G f=some C→qAg Tryz.prog f C:=fun f C h=>by cases h
def zbv_L:Nat→SubQ:=tblL []
theorem zbv_subs:qAn zbv_L zbv_G 0 5 21 zbv_q:=qAk (show qAq zbv_L zbv_G 0 5 21 [] from tV)
def zbv_da:=(qAb (dVC (dCO dS)) (qAb (dVC (dCO dZ)) dNil))
def zbv_db:=(dNil:Dec Unit (List SB))
def zbv_c:CS:=mkC zbv_da zbv_db (fun x y=>zbv_s x.1 x.2.1) (fun x y r=>.c (.o (.vB r))) fun x y r=>[]
theorem zbv_val:qAl Tryz.prog 82 zbv_c:=qAm zbv_chk 5 zbv_Gok 0 (fun x=>Nat.le_of_ble_eq_true rfl) (fun y=>rfl) zbv_subs fun x y=>by
 simp only [zbv_s,-eq_self,qAd,qAf,obA,obS,slL,slR,qAc];kernel_rfl
def zbv_w:CQ:=qCj [] zbv_c
theorem zbv_ok:qAg Tryz.prog 82 zbv_w:=qAx zbv_val
def zbw_b0:IQ:=(.loop [0,1] (.seq (.seq (rg 7 [oM 5 t0,oM 6 t1,oP 7 (.call 82 [t5,t6])]) (.cond t7 .skip (.cn [1] (.exit 0)))) (.block 1 (rg 1 [oM 8 t1,oP 9 (.bi .add t8 (vI 1)),oM 1 t9]))))
def zbw_q:IQ:=(.seq (rg 4 [oP 4 (.mv (vI 0))]) (.seq (.block 0 (.cn [0,1] (.sub 0 zbw_b0))) (.seq (rg 4 [oM 10 t1,oM 4 t10]) (.cn [4] .ret))))
theorem zbw_chk:chk Tryz.prog 75 []=some (zbw_q.erase,[.tmp 4],11):=by kernel_rfl
def zbw_p0_step (s:BA) (at_:Int):Option (Int ⊕ Int) :=
 (zbv_s s at_).bind fun r2 =>
 bif r2 then (
  gd (qAe (at_+(1:Int))) <|
  some (.inl (at_+(1:Int))))
 else (
  some (.inr at_))
def zbw_p0 (s:BA) (at_:Int):Option Int :=
 qA0 (fun x:Int=>zbw_p0_step s x) at_
def zbw_s (s:BA) (at_:Int):Option Int :=
 (zbw_p0 s at_).bind fun o3 =>
 some o3
def zbw_G:Nat→Option CQ:=tblQ [(82,zbv_w)]
theorem zbw_Gok:∀f C,zbw_G f=some C→qAg Tryz.prog f C:=qAj ⟨zbv_ok,tV⟩
def zbw_d0:=(dQS (qAb (dSO 0 dS) (qAb (dSO 1 dZ) dNil)) dNil)
def zbw_l0:SubQ:=mkL zbw_d0 (fun x=>zbw_p0 x.1.1 x.1.2.1) fun x r R kn kx kr=>kx 0 ⟨[sL 1 (.vI r)],[],[]⟩
def zbw_L:Nat→SubQ:=tblL [(0,zbw_l0)]
theorem zbw_sub0:qA4 zbw_L zbw_G 0 5 11 0 zbw_b0:=qAr (show zbw_L 0=zbw_l0 from by kernel_rfl) fun x R kn kx kr=>qAo (step:=fun y=>zbw_p0_step x.1.1 y) (enc:=fun (y:Int)=>zbw_d0.e ((x.1.1,y,x.1.2.2),x.2)) (fun y=>by kernel_rfl) (fun y ki=>by simp only [zbw_p0_step,-eq_self,qAd,qAf,obA,obS,slL,slR,qAc]; kernel_rfl) x.1.2.1
theorem zbw_subs:qAn zbw_L zbw_G 0 5 11 zbw_q:=qAk (show qAq zbw_L zbw_G 0 5 11 [(0,zbw_b0)] from ⟨zbw_sub0,tV⟩)
def zbw_da:=(qAb (dVC (dCO dS)) (qAb (dVC (dCO dZ)) dNil))
def zbw_db:=(dNil:Dec Unit (List SB))
def zbw_c:CS:=mkC zbw_da zbw_db (fun x y=>zbw_s x.1 x.2.1) (fun x y r=>.c (.o (.vI r))) fun x y r=>[]
theorem zbw_val:qAl Tryz.prog 75 zbw_c:=qAm zbw_chk 5 zbw_Gok 0 (fun x=>Nat.le_of_ble_eq_true rfl) (fun y=>rfl) zbw_subs fun x y=>by
 simp only [zbw_s,-eq_self,qAd,qAf,obA,obS,slL,slR,qAc];kernel_rfl
def zbw_w:CQ:=qCj [] zbw_c
theorem zbw_ok:qAg Tryz.prog 75 zbw_w:=qAx zbw_val
def zbt_b3:IQ:=(.loop [0,2,4,7,9,10] (.seq (.seq (rg 140 [oM 138 t10,oM 139 t9,oP 140 (.bi .lss t138 t139)]) (.cond t140 .skip (.cn [0,2,4,7,9] (.exit 0)))) (.seq (.block 1 (.seq (rg 152 [oM 143 t0,oM 144 t10,oP 145 (.index t143 t144),oP 146 (.bi .neq t145 (vC 48)),oM 147 t146,oE 148 (.faddr 4 t4) 147,oE 149 (.load none t148) 147,oE 150 (.len t149) 147,oE 151 (.bi .gtr t150 (vI 0)) 147,oP 152 (.pick t147 vT t151)]) (.cond t152 (.reg 0 (some [0,1,2,3,4,5,6,7,8,9,10]) [oP 153 (.faddr 4 t4),oP 154 (.load none t153),oM 155 t0,oM 156 t10,oP 157 (.index t155 t156),oP 158 (.bi .sub t157 (vC 48)),oP 159 (.conv false .i64 t158),oP 160 (.bslice 3 1 1 [.int .i64 0] [(0,t159)]),oP 161 (.append 3 1 8 [.int .i64 0] t154 t160),oP 162 (.faddr 4 t4),oN (.store 1 t162 t161)]) .skip))) (rg 10 [oM 141 t10,oP 142 (.bi .add t141 (vI 1)),oM 10 t142]))))
def zbt_b2:IQ:=(.join [] [0,2,4,5,7] (.seq (rg 9 [oM 130 t0,oM 131 t5,oP 132 (.call 75 [t130,t131]),oM 9 t132]) (.seq (.seq (rg 135 [oM 133 t9,oM 134 t5,oP 135 (.bi .eql t133 t134)]) (.cond t135 (.seq (rg 3 [oP 136 (.load (some 7) t4),oN (.store 7 t2 t136),oP 3 (.mv vF)]) (.canon [(2,some 1,.i64,3),(2,some 4,.i64,3)] [2,3] .ret)) .skip)) (.seq (.seq (rg 10 [oM 137 t5,oM 10 t137]) (.block 0 (.canon [(4,some 4,.i64,3)] [0,2,4,7,9,10] (.sub 3 zbt_b3)))) (rg 5 [oM 163 t9,oM 5 t163])))))
def zbt_b5:IQ:=(.loop [2,4,7,11] (.seq (.seq (rg 172 [oM 169 t11,oM 170 t7,oP 171 (.lenS t170),oP 172 (.bi .lss t169 t171)]) (.cond t172 .skip (.cn [2,4] (.exit 2)))) (.seq (.block 3 (.seq (rg 12 [oM 175 t7,oM 176 t11,oP 177 (.index t175 t176),oP 178 (.bi .sub t177 (vC 48)),oP 179 (.conv false .i64 t178),oM 12 t179]) (.seq (rg 187 [oM 180 t12,oP 181 (.bi .neq t180 (vI 0)),oM 182 t181,oE 183 (.faddr 1 t4) 182,oE 184 (.load none t183) 182,oE 185 (.len t184) 182,oE 186 (.bi .gtr t185 (vI 0)) 182,oP 187 (.pick t182 vT t186)]) (.cond t187 (rg 0 [oP 188 (.faddr 1 t4),oP 189 (.load none t188),oM 190 t12,oP 191 (.bslice 3 1 1 [.int .i64 0] [(0,t190)]),oP 192 (.append 3 1 8 [.int .i64 0] t189 t191),oP 193 (.faddr 1 t4),oN (.store 1 t193 t192)]) (rg 0 [oP 194 (.faddr 2 t4),oP 195 (.load none t194),oP 196 (.bi .sub t195 (vI 1)),oP 197 (.faddr 2 t4),oN (.store 1 t197 t196)]))))) (rg 11 [oM 173 t11,oP 174 (.bi .add t173 (vI 1)),oM 11 t174]))))
def zbt_b6:IQ:=(.loop [2,4] (.seq (.seq (rg 212 [oP 198 (.faddr 1 t4),oP 199 (.load none t198),oP 200 (.len t199),oP 201 (.bi .gtr t200 (vI 0)),oM 202 t201,oF 203 (.faddr 1 t4) 202,oF 204 (.load none t203) 202,oF 205 (.faddr 1 t4) 202,oF 206 (.load none t205) 202,oF 207 (.len t206) 202,oF 208 (.bi .sub t207 (vI 1)) 202,oF 209 (.iaddr 1 t204 t208) 202,oF 210 (.load none t209) 202,oF 211 (.bi .eql t210 (vI 0)) 202,oP 212 (.pick t202 t211 vF)]) (.cond t212 .skip (.cn [2,4] (.exit 4)))) (.block 5 (rg 0 [oP 213 (.faddr 1 t4),oP 214 (.load none t213),oP 215 (.faddr 1 t4),oP 216 (.load none t215),oP 217 (.len t216),oP 218 (.bi .sub t217 (vI 1)),oP 219 (.sub (some 1) t214 none (some t218)),oP 220 (.faddr 1 t4),oN (.store 1 t220 t219)]))))
def zbt_b4:IQ:=(.seq (.seq (rg 167 [oM 164 t5,oM 165 t0,oP 166 (.lenS t165),oP 167 (.bi .neq t164 t166)]) (.cond t167 (.seq (rg 3 [oP 168 (.load (some 7) t4),oN (.store 7 t2 t168),oP 3 (.mv vF)]) (.canon [(2,some 1,.i64,3),(2,some 4,.i64,3)] [2,3] .ret)) .skip)) (.seq (.seq (rg 11 [oP 11 (.mv (vI 0))]) (.block 2 (.canon [(4,some 1,.i64,3)] [2,4,7,11] (.sub 5 zbt_b5)))) (.seq (.block 4 (.cn [2,4] (.sub 6 zbt_b6))) (.seq (rg 3 [oP 221 (.load (some 7) t4),oN (.store 7 t2 t221),oP 3 (.mv vT)]) (.canon [(2,some 1,.i64,3),(2,some 4,.i64,3)] [2,3] .ret)))))
def zbt_b1:IQ:=(.seq (.seq (rg 103 [oM 88 t5,oM 89 t0,oP 90 (.lenS t89),oP 91 (.bi .lss t88 t90),oM 92 t91,oF 93 (.mv t0) 92,oF 94 (.mv t5) 92,oF 95 (.index t93 t94) 92,oF 96 (.bi .eql t95 (vC 101)) 92,oF 97 (.mv t96) 92,oE 98 (.mv t0) 97,oE 99 (.mv t5) 97,oE 100 (.index t98 t99) 97,oE 101 (.bi .eql t100 (vC 69)) 97,oF 102 (.pick t97 vT t101) 92,oP 103 (.pick t92 t102 vF)]) (.cond t103 (.seq (rg 0 [oP 104 (.faddr 5 t4),oN (.store 1 t104 vF)]) (.seq (rg 5 [oM 105 t5,oP 106 (.bi .add t105 (vI 1)),oM 5 t106]) (.seq (.seq (rg 122 [oM 107 t5,oM 108 t0,oP 109 (.lenS t108),oP 110 (.bi .lss t107 t109),oM 111 t110,oF 112 (.mv t0) 111,oF 113 (.mv t5) 111,oF 114 (.index t112 t113) 111,oF 115 (.bi .eql t114 (vC 43)) 111,oF 116 (.mv t115) 111,oE 117 (.mv t0) 116,oE 118 (.mv t5) 116,oE 119 (.index t117 t118) 116,oE 120 (.bi .eql t119 (vC 45)) 116,oF 121 (.pick t116 vT t120) 111,oP 122 (.pick t111 t121 vF)]) (.cond t122 (.seq (rg 0 [oM 123 t0,oM 124 t5,oP 125 (.index t123 t124),oP 126 (.bi .eql t125 (vC 45)),oP 127 (.faddr 3 t4),oN (.store 1 t127 t126)]) (rg 5 [oM 128 t5,oP 129 (.bi .add t128 (vI 1)),oM 5 t129])) .skip)) (.cn [0,2,4,5,7] (.sub 2 zbt_b2))))) .skip)) (.canon [(4,some 4,.i64,3)] [0,2,4,5,7] (.sub 4 zbt_b4)))
def zbt_b0:IQ:=(.seq (rg 6 [oM 27 t5,oM 6 t27]) (.seq (rg 5 [oM 28 t0,oM 29 t5,oP 30 (.call 75 [t28,t29]),oM 5 t30]) (.seq (.seq (rg 45 [oM 31 t5,oM 32 t6,oP 33 (.bi .eql t31 t32),oM 34 t33,oE 35 (.mv t0) 34,oE 36 (.mv t6) 34,oE 37 (.index t35 t36) 34,oE 38 (.bi .eql t37 (vC 48)) 34,oE 39 (.mv t38) 34,oF 40 (.mv t5) 39,oF 41 (.mv t6) 39,oF 42 (.bi .add t41 (vI 1)) 39,oF 43 (.bi .gtr t40 t42) 39,oE 44 (.pick t39 t43 vF) 34,oP 45 (.pick t34 vT t44)]) (.cond t45 (.seq (rg 3 [oP 46 (.load (some 7) t4),oN (.store 7 t2 t46),oP 3 (.mv vF)]) (.canon [(2,some 1,.i64,3),(2,some 4,.i64,3)] [2,3] .ret)) .skip)) (.seq (rg 0 [oM 47 t0,oM 48 t6,oM 49 t5,oP 50 (.sub none t47 (some t48) (some t49)),oP 51 (.faddr 6 t4),oN (.store 1 t51 t50)]) (.seq (rg 7 [oM 52 t0,oM 53 t6,oM 54 t5,oP 55 (.sub none t52 (some t53) (some t54)),oM 7 t55]) (.seq (rg 0 [oM 56 t5,oM 57 t6,oP 58 (.bi .sub t56 t57),oP 59 (.faddr 2 t4),oN (.store 1 t59 t58)]) (.seq (.seq (rg 69 [oM 60 t5,oM 61 t0,oP 62 (.lenS t61),oP 63 (.bi .lss t60 t62),oM 64 t63,oF 65 (.mv t0) 64,oF 66 (.mv t5) 64,oF 67 (.index t65 t66) 64,oF 68 (.bi .eql t67 (vC 46)) 64,oP 69 (.pick t64 t68 vF)]) (.cond t69 (.seq (rg 0 [oP 70 (.faddr 5 t4),oN (.store 1 t70 vF)]) (.seq (rg 8 [oM 71 t0,oM 72 t5,oP 73 (.bi .add t72 (vI 1)),oP 74 (.call 75 [t71,t73]),oM 8 t74]) (.seq (.seq (rg 78 [oM 75 t8,oM 76 t5,oP 77 (.bi .add t76 (vI 1)),oP 78 (.bi .eql t75 t77)]) (.cond t78 (.seq (rg 3 [oP 79 (.load (some 7) t4),oN (.store 7 t2 t79),oP 3 (.mv vF)]) (.canon [(2,some 1,.i64,3),(2,some 4,.i64,3)] [2,3] .ret)) .skip)) (.seq (rg 7 [oM 80 t7,oM 81 t0,oM 82 t5,oP 83 (.bi .add t82 (vI 1)),oM 84 t8,oP 85 (.sub none t81 (some t83) (some t84)),oP 86 (.bi .add t80 t85),oM 7 t86]) (rg 5 [oM 87 t8,oM 5 t87]))))) .skip)) (.cn [0,2,4,5,7] (.sub 1 zbt_b1)))))))))
def zbt_q:IQ:=(.seq (rg 3 [oP 2 (.alloc 98 [.bool false,.slice none 0 0,.int .i64 0,.bool false,.slice none 0 0,.bool false,.string ⟨#[]⟩]),oP 3 (.mv vF)]) (.seq (rg 0 [oP 13 (.build [.bool false,.slice none 0 0,.int .i64 0,.bool false,.slice none 0 0,.bool false,.string ⟨#[]⟩] [(5,1,vT)]),oP 4 (.alloc 98 [.bool false,.slice none 0 0,.int .i64 0,.bool false,.slice none 0 0,.bool false,.string ⟨#[]⟩]),oN (.store 7 t4 t13)]) (.seq (rg 5 [oP 5 (.mv (vI 0))]) (.seq (.seq (rg 23 [oM 14 t5,oM 15 t0,oP 16 (.lenS t15),oP 17 (.bi .lss t14 t16),oM 18 t17,oF 19 (.mv t0) 18,oF 20 (.mv t5) 18,oF 21 (.index t19 t20) 18,oF 22 (.bi .eql t21 (vC 45)) 18,oP 23 (.pick t18 t22 vF)]) (.cond t23 (.seq (rg 0 [oP 24 (.faddr 0 t4),oN (.store 1 t24 vT)]) (rg 5 [oM 25 t5,oP 26 (.bi .add t25 (vI 1)),oM 5 t26])) .skip)) (.cn [0,2,4,5] (.sub 0 zbt_b0))))))
theorem zbt_chk:chk Tryz.prog 68 []=some (zbt_q.erase,[.cell 2 (some 7),.tmp 3],222):=by kernel_rfl
def zbt_p3_step (s:BA) (k_ i:Int) (qHg:List Int):Option ((Int × (List Int)) ⊕ ((List Int))) :=
 bif decide (i<k_) then (
  gd (0≤i∧i<s.size) <|
  bif ((!decide ((bAt s i)=(48:Int))) || (decide ((0:Int)<(qHg.length:Int)))) then (
   gd (0≤i∧i<s.size) <|
   gd (qAe (((bAt s i) - (48:Int)) % 256)) <|
   gd (qHg.length+([(((bAt s i) - (48:Int)) % 256)]:List Int).length≤9223372036854775807∧(qHg.length+([(((bAt s i) - (48:Int)) % 256)]:List Int).length)*8≤140737488355328) <|
   gd (qAe (i+(1:Int))) <|
   some (.inl ((i+(1:Int)),(qHg++[(((bAt s i) - (48:Int)) % 256)]))))
  else (
   gd (qAe (i+(1:Int))) <|
   some (.inl ((i+(1:Int)),qHg))))
 else (
  some (.inr qHg))
def zbt_p3 (s:BA) (k_ i:Int) (qHg:List Int):Option ((List Int)) :=
 qA0 (fun x:(Int × (List Int))=>zbt_p3_step s k_ x.1 x.2) (i,qHg)
def zbt_p2 (s:BA) (at_:Int):Option ((Bool × (List Int) × (List Int)) ⊕ (Int × (List Int))) :=
 (zbw_s s at_).bind fun r81 =>
 bif decide (r81=at_) then (
  some (.inl (false,[],[])))
 else (
  (zbt_p3 s r81 at_ []).bind fun o82 =>
  some (.inr (r81,o82)))
def zbt_p5_step (all:BA) (i qHd:Int) (qHa:List Int):Option ((Int × Int × (List Int)) ⊕ (Int × (List Int))) :=
 bif decide (i<(all.size:Int)) then (
  gd (0≤i∧i<all.size) <|
  gd (qAe (((bAt all i) - (48:Int)) % 256)) <|
  bif ((!decide ((((bAt all i) - (48:Int)) % 256)=(0:Int))) || (decide ((0:Int)<(qHa.length:Int)))) then (
   gd (qHa.length+([(((bAt all i) - (48:Int)) % 256)]:List Int).length≤9223372036854775807∧(qHa.length+([(((bAt all i) - (48:Int)) % 256)]:List Int).length)*8≤140737488355328) <|
   gd (qAe (i+(1:Int))) <|
   some (.inl ((i+(1:Int)),qHd,(qHa++[(((bAt all i) - (48:Int)) % 256)]))))
  else (
   gd (qAe (qHd - (1:Int))) <|
   gd (qAe (i+(1:Int))) <|
   some (.inl ((i+(1:Int)),(qHd - (1:Int)),qHa))))
 else (
  some (.inr (qHd,qHa)))
def zbt_p5 (all:BA) (i qHd:Int) (qHa:List Int):Option (Int × (List Int)) :=
 qA0 (fun x:(Int × Int × (List Int))=>zbt_p5_step all x.1 x.2.1 x.2.2) (i,qHd,qHa)
def zbt_p6_step (qHa:List Int):Option (((List Int)) ⊕ ((List Int))) :=
 gd ((decide ((0:Int)<(qHa.length:Int)))=true→qAe ((qHa.length:Int) - (1:Int))) <|
 gd ((decide ((0:Int)<(qHa.length:Int)))=true→0≤((qHa.length:Int) - (1:Int))∧((qHa.length:Int) - (1:Int))<qHa.length) <|
 gd ((decide ((0:Int)<(qHa.length:Int)))=true→(Int.toNat ((qHa.length:Int) - (1:Int)))<qHa.length) <|
 bif ((decide ((0:Int)<(qHa.length:Int))) && (decide ((qHa.getD (Int.toNat ((qHa.length:Int) - (1:Int))) (ET.dft .i64))=(0:Int)))) then (
  gd (qAe ((qHa.length:Int) - (1:Int))) <|
  gd (0≤((qHa.length:Int) - (1:Int))∧((qHa.length:Int) - (1:Int))≤qHa.length) <|
  some (.inl (qHa.take (Int.toNat ((qHa.length:Int) - (1:Int))))))
 else (
  some (.inr qHa))
def zbt_p6 (qHa:List Int):Option ((List Int)) :=
 qA0 (fun x:((List Int))=>zbt_p6_step x) qHa
def zbt_p4 (s:BA) (at_:Int) (all:BA) (qHd:Int):Option (Bool × Int × (List Int)) :=
 bif (!decide (at_=(s.size:Int))) then (
  some (false,qHd,[]))
 else (
  (zbt_p5 all (0:Int) qHd []).bind fun o84 =>
  (zbt_p6 o84.2).bind fun o85 =>
  some (true,o84.1,o85))
def zbt_p1 (s:BA) (at_:Int) (all:BA) (qHd:Int) (qHf qHk:Bool):Option (Bool × Int × Bool × Bool × (List Int) × (List Int)) :=
 gd ((decide (at_<(s.size:Int)))=true→0≤at_∧at_<s.size) <|
 gd ((decide ((bAt s at_)=(101:Int)))=false→(decide (at_<(s.size:Int)))=true→0≤at_∧at_<s.size) <|
 bif ((decide (at_<(s.size:Int))) && ((decide ((bAt s at_)=(101:Int))) || (decide ((bAt s at_)=(69:Int))))) then (
  gd (qAe (at_+(1:Int))) <|
  gd ((decide ((at_+(1:Int))<(s.size:Int)))=true→0≤(at_+(1:Int))∧(at_+(1:Int))<s.size) <|
  gd ((decide ((bAt s (at_+(1:Int)))=(43:Int)))=false→(decide ((at_+(1:Int))<(s.size:Int)))=true→0≤(at_+(1:Int))∧(at_+(1:Int))<s.size) <|
  bif ((decide ((at_+(1:Int))<(s.size:Int))) && ((decide ((bAt s (at_+(1:Int)))=(43:Int))) || (decide ((bAt s (at_+(1:Int)))=(45:Int))))) then (
   gd (0≤(at_+(1:Int))∧(at_+(1:Int))<s.size) <|
   gd (qAe ((at_+(1:Int))+(1:Int))) <|
   (zbt_p2 s ((at_+(1:Int))+(1:Int))).bind fun o83=>(Sum.elim (fun (o83_0:Bool × (List Int) × (List Int)) =>
    some (o83_0.1,qHd,decide ((bAt s (at_+(1:Int)))=(45:Int)),false,o83_0.2.1,o83_0.2.2)) (fun (o83_1:Int × (List Int)) =>
    (zbt_p4 s o83_1.1 all qHd).bind fun o86 =>
    some (o86.1,o86.2.1,decide ((bAt s (at_+(1:Int)))=(45:Int)),false,o86.2.2,o83_1.2))) o83)
  else (
   (zbt_p2 s (at_+(1:Int))).bind fun o87=>(Sum.elim (fun (o87_0:Bool × (List Int) × (List Int)) =>
    some (o87_0.1,qHd,qHf,false,o87_0.2.1,o87_0.2.2)) (fun (o87_1:Int × (List Int)) =>
    (zbt_p4 s o87_1.1 all qHd).bind fun o88 =>
    some (o88.1,o88.2.1,qHf,false,o88.2.2,o87_1.2))) o87))
 else (
  (zbt_p4 s at_ all qHd).bind fun o89 =>
  some (o89.1,o89.2.1,qHf,qHk,o89.2.2,[]))
def zbt_p0 (s:BA) (at_ qHd:Int) (qHf qHk:Bool) (qHc:BA):Option (Bool × Int × Bool × Bool × BA × (List Int) × (List Int)) :=
 (zbw_s s at_).bind fun r79 =>
 gd ((decide (r79=at_))=false→0≤at_∧at_<s.size) <|
 gd ((decide ((bAt s at_)=(48:Int)))=true→(decide (r79=at_))=false→qAe (at_+(1:Int))) <|
 bif ((decide (r79=at_)) || ((decide ((bAt s at_)=(48:Int))) && (decide ((at_+(1:Int))<r79)))) then (
  some (false,qHd,qHf,qHk,qHc,[],[]))
 else (
  gd (0≤at_∧at_≤r79∧r79≤s.size) <|
  gd (0≤at_∧at_≤r79∧r79≤s.size) <|
  gd (qAe (r79 - at_)) <|
  gd ((decide (r79<(s.size:Int)))=true→0≤r79∧r79<s.size) <|
  bif ((decide (r79<(s.size:Int))) && (decide ((bAt s r79)=(46:Int)))) then (
   gd (qAe (r79+(1:Int))) <|
   (zbw_s s (r79+(1:Int))).bind fun r80 =>
   gd (qAe (r79+(1:Int))) <|
   bif decide (r80=(r79+(1:Int))) then (
    some (false,(r79 - at_),qHf,false,(s.extract (Int.toNat at_) (Int.toNat r79)),[],[]))
   else (
    gd (qAe (r79+(1:Int))) <|
    gd (0≤(r79+(1:Int))∧(r79+(1:Int))≤r80∧r80≤s.size) <|
    gd ((s.extract (Int.toNat at_) (Int.toNat r79)).size+(s.extract (Int.toNat (r79+(1:Int))) (Int.toNat r80)).size≤9223372036854775807) <|
    (zbt_p1 s r80 ((s.extract (Int.toNat at_) (Int.toNat r79))++(s.extract (Int.toNat (r79+(1:Int))) (Int.toNat r80))) (r79 - at_) qHf false).bind fun o90 =>
    some (o90.1,o90.2.1,o90.2.2.1,o90.2.2.2.1,(s.extract (Int.toNat at_) (Int.toNat r79)),o90.2.2.2.2.1,o90.2.2.2.2.2)))
  else (
   (zbt_p1 s r79 (s.extract (Int.toNat at_) (Int.toNat r79)) (r79 - at_) qHf qHk).bind fun o91 =>
   some (o91.1,o91.2.1,o91.2.2.1,o91.2.2.2.1,(s.extract (Int.toNat at_) (Int.toNat r79)),o91.2.2.2.2.1,o91.2.2.2.2.2)))
def zbt_s (s:BA):Option (qHe × Bool) :=
 gd ((decide ((0:Int)<(s.size:Int)))=true→0≤(0:Int)∧(0:Int)<s.size) <|
 bif ((decide ((0:Int)<(s.size:Int))) && (decide ((bAt s (0:Int))=(45:Int)))) then (
  gd (qAe ((0:Int)+(1:Int))) <|
  (zbt_p0 s ((0:Int)+(1:Int)) (0:Int) false true (⟨#[]⟩:BA)).bind fun o92 =>
  some ((⟨true,o92.2.2.2.2.2.1,o92.2.1,o92.2.2.1,o92.2.2.2.2.2.2,o92.2.2.2.1,o92.2.2.2.2.1⟩:qHe),o92.1))
 else (
  (zbt_p0 s (0:Int) (0:Int) false true (⟨#[]⟩:BA)).bind fun o93 =>
  some ((⟨false,o93.2.2.2.2.2.1,o93.2.1,o93.2.2.1,o93.2.2.2.2.2.2,o93.2.2.2.1,o93.2.2.2.2.1⟩:qHe),o93.1))
def zbt_G:Nat→Option CQ:=tblQ [(75,zbw_w)]
theorem zbt_Gok:∀f C,zbt_G f=some C→qAg Tryz.prog f C:=qAj ⟨zbw_ok,tV⟩
def zDGC2:=(qGy 98 (qAb dB (qAb dNS (qAb dZ (qAb dB (qAb dNS (qAb dB (qAb dS dNil))))))))
def zDGC6:=(qAb dZ (qAb dB (qAb (dO 2) (qAb dB (qAb dS dNil)))))
def zbt_d3:=(dQS (qAb (dSO 0 dS) (qAb (dSO 2 (dH 0 0)) (qAb (dSO 4 (dH 1 0)) (qAb (dSO 7 dS) (qAb (dSO 9 dZ) (qAb (dSO 10 dZ) dNil)))))) (qAb zDGC2 (qAb (qGy 98 (qAb dB (qAb dNS zDGC6))) (qAb (dRow .i64 3) dNil))))
def zbt_l3:SubQ:=mkL zbt_d3 (fun x=>zbt_p3 x.1.1 x.1.2.2.2.2.1 x.1.2.2.2.2.2.1 x.2.2.2.1) fun x r R kn kx kr=>kx 0 ⟨[sL 0 (.vS x.1.1),sL 2 (.hd 0 0),sL 4 (.hd 1 0),sL 7 (.vS x.1.2.2.2.1),sL 9 (.vI x.1.2.2.2.2.1)],[],[.cells 98 [.vB x.2.1.1,.val (.slice none 0 0),.vI x.2.1.2.2.1,.vB x.2.1.2.2.2.1,.val (.slice none 0 0),.vB x.2.1.2.2.2.2.2.1,.vS x.2.1.2.2.2.2.2.2.1],.cells 98 [.vB x.2.2.1.1,.val (.slice none 0 0),.vI x.2.2.1.2.2.1,.vB x.2.2.1.2.2.2.1,.own 2,.vB x.2.2.1.2.2.2.2.2.1,.vS x.2.2.1.2.2.2.2.2.2.1],.row .i64 3 r]⟩
def zDGC4:=(qAb (dSO 0 dS) (qAb (dSO 2 (dH 0 0)) (qAb (dSO 4 (dH 1 0)) (qAb (dSO 5 dZ) (qAb (dSO 7 dS) dNil)))))
def zDGC8:=(qAb zDGC2 (qAb zDGC2 dNil))
def zbt_d2:=(dQS zDGC4 zDGC8)
def zbt_l2:SubQ:=mkL zbt_d2 (fun x=>zbt_p2 x.1.1 x.1.2.2.2.1) fun x r R kn kx kr=>(Sum.elim (fun (r_0:Bool × (List Int) × (List Int))=>kr ⟨[sL 2 (.hd 0 0),sL 3 (.vB r_0.1)],[],[.cells 98 [.vB x.2.2.1.1,.own 1,.vI x.2.2.1.2.2.1,.vB x.2.2.1.2.2.2.1,.own 2,.vB x.2.2.1.2.2.2.2.2.1,.vS x.2.2.1.2.2.2.2.2.2.1],.row .i64 3 r_0.2.1,.row .i64 3 r_0.2.2]⟩) (fun (r_1:Int × (List Int))=>kn ⟨[sL 0 (.vS x.1.1),sL 2 (.hd 0 0),sL 4 (.hd 1 0),sL 5 (.vI r_1.1),sL 7 (.vS x.1.2.2.2.2.1)],[],[.cells 98 [.vB x.2.1.1,.val (.slice none 0 0),.vI x.2.1.2.2.1,.vB x.2.1.2.2.2.1,.val (.slice none 0 0),.vB x.2.1.2.2.2.2.2.1,.vS x.2.1.2.2.2.2.2.2.1],.cells 98 [.vB x.2.2.1.1,.val (.slice none 0 0),.vI x.2.2.1.2.2.1,.vB x.2.2.1.2.2.2.1,.own 2,.vB x.2.2.1.2.2.2.2.2.1,.vS x.2.2.1.2.2.2.2.2.2.1],.row .i64 3 r_1.2]⟩)) r
def zDGC7:=(qAb (dRow .i64 3) (qAb (dRow .i64 3) dNil))
def zbt_d5:=(dQS (qAb (dSO 2 (dH 0 0)) (qAb (dSO 4 (dH 1 0)) (qAb (dSO 7 dS) (qAb (dSO 11 dZ) dNil)))) (qAb zDGC2 (qAb (qGy 98 (qAb dB (qAb (dO 2) (qAb dZ (qAb dB (qAb (dO 3) (qAb dB (qAb dS dNil)))))))) zDGC7)))
def zbt_l5:SubQ:=mkL zbt_d5 (fun x=>zbt_p5 x.1.2.2.1 x.1.2.2.2.1 x.2.2.1.2.2.1 x.2.2.2.1) fun x r R kn kx kr=>kx 2 ⟨[sL 2 (.hd 0 0),sL 4 (.hd 1 0)],[],[.cells 98 [.vB x.2.1.1,.val (.slice none 0 0),.vI x.2.1.2.2.1,.vB x.2.1.2.2.2.1,.val (.slice none 0 0),.vB x.2.1.2.2.2.2.2.1,.vS x.2.1.2.2.2.2.2.2.1],.cells 98 [.vB x.2.2.1.1,.own 2,.vI r.1,.vB x.2.2.1.2.2.2.1,.own 3,.vB x.2.2.1.2.2.2.2.2.1,.vS x.2.2.1.2.2.2.2.2.2.1],.row .i64 3 r.2,.row .i64 3 x.2.2.2.2.1]⟩
def zbt_d6:=(dQS (qAb (dSO 2 (dH 0 0)) (qAb (dSO 4 (dH 1 0)) dNil)) (qAb zDGC2 (qAb (qGy 98 (qAb dB (qAb (dO 2) (qAb dZ (qAb dB (qAb (dO 3) (qAb dB (qAb dS dNil)))))))) zDGC7)))
def zbt_l6:SubQ:=mkL zbt_d6 (fun x=>zbt_p6 x.2.2.2.1) fun x r R kn kx kr=>kx 4 ⟨[sL 2 (.hd 0 0),sL 4 (.hd 1 0)],[],[.cells 98 [.vB x.2.1.1,.val (.slice none 0 0),.vI x.2.1.2.2.1,.vB x.2.1.2.2.2.1,.val (.slice none 0 0),.vB x.2.1.2.2.2.2.2.1,.vS x.2.1.2.2.2.2.2.2.1],.cells 98 [.vB x.2.2.1.1,.own 2,.vI x.2.2.1.2.2.1,.vB x.2.2.1.2.2.2.1,.own 3,.vB x.2.2.1.2.2.2.2.2.1,.vS x.2.2.1.2.2.2.2.2.2.1],.row .i64 3 r,.row .i64 3 x.2.2.2.2.1]⟩
def zbt_d4:=(dQS zDGC4 (qAb zDGC2 (qAb (qGy 98 (qAb dB (qAb dNS zDGC6))) (qAb (dRow .i64 3) dNil))))
def zbt_l4:SubQ:=mkL zbt_d4 (fun x=>zbt_p4 x.1.1 x.1.2.2.2.1 x.1.2.2.2.2.1 x.2.2.1.2.2.1) fun x r R kn kx kr=>kr ⟨[sL 2 (.hd 0 0),sL 3 (.vB r.1)],[],[.cells 98 [.vB x.2.2.1.1,.own 1,.vI r.2.1,.vB x.2.2.1.2.2.2.1,.own 2,.vB x.2.2.1.2.2.2.2.2.1,.vS x.2.2.1.2.2.2.2.2.2.1],.row .i64 3 r.2.2,.row .i64 3 x.2.2.2.1]⟩
def zbt_d1:=(dQS zDGC4 zDGC8)
def zbt_l1:SubQ:=mkL zbt_d1 (fun x=>zbt_p1 x.1.1 x.1.2.2.2.1 x.1.2.2.2.2.1 x.2.2.1.2.2.1 x.2.2.1.2.2.2.1 x.2.2.1.2.2.2.2.2.1) fun x r R kn kx kr=>kr ⟨[sL 2 (.hd 0 0),sL 3 (.vB r.1)],[],[.cells 98 [.vB x.2.2.1.1,.own 1,.vI r.2.1,.vB r.2.2.1,.own 2,.vB r.2.2.2.1,.vS x.2.2.1.2.2.2.2.2.2.1],.row .i64 3 r.2.2.2.2.1,.row .i64 3 r.2.2.2.2.2]⟩
def zbt_d0:=(dQS (qAb (dSO 0 dS) (qAb (dSO 2 (dH 0 0)) (qAb (dSO 4 (dH 1 0)) (qAb (dSO 5 dZ) dNil)))) zDGC8)
def zbt_l0:SubQ:=mkL zbt_d0 (fun x=>zbt_p0 x.1.1 x.1.2.2.2.1 x.2.2.1.2.2.1 x.2.2.1.2.2.2.1 x.2.2.1.2.2.2.2.2.1 x.2.2.1.2.2.2.2.2.2.1) fun x r R kn kx kr=>kr ⟨[sL 2 (.hd 0 0),sL 3 (.vB r.1)],[],[.cells 98 [.vB x.2.2.1.1,.own 1,.vI r.2.1,.vB r.2.2.1,.own 2,.vB r.2.2.2.1,.vS r.2.2.2.2.1],.row .i64 3 r.2.2.2.2.2.1,.row .i64 3 r.2.2.2.2.2.2]⟩
def zbt_L:Nat→SubQ:=tblL [(3,zbt_l3),(2,zbt_l2),(5,zbt_l5),(6,zbt_l6),(4,zbt_l4),(1,zbt_l1),(0,zbt_l0)]
theorem zbt_sub3:qA4 zbt_L zbt_G 0 13 222 3 zbt_b3:=qAr (show zbt_L 3=zbt_l3 from by kernel_rfl) fun x R kn kx kr=>qAo (step:=fun y=>zbt_p3_step x.1.1 x.1.2.2.2.2.1 y.1 y.2) (enc:=fun (y:Int × (List Int))=>zbt_d3.e ((x.1.1,x.1.2.1,x.1.2.2.1,x.1.2.2.2.1,x.1.2.2.2.2.1,y.1,x.1.2.2.2.2.2.2),(x.2.1,x.2.2.1,y.2,x.2.2.2.2))) (fun y=>by kernel_rfl) (fun y ki=>by simp only [zbt_p3_step,-eq_self,qAd,qAf,obA,obS,slL,slR,qAc]; kernel_rfl) (x.1.2.2.2.2.2.1,x.2.2.2.1)
theorem zbt_sub2:qA4 zbt_L zbt_G 0 13 222 2 zbt_b2:=qAr (show zbt_L 2=zbt_l2 from by kernel_rfl) fun x R kn kx kr=>by
 simp only [zbt_p2,-eq_self,qAd,qAf,obA,obS,slL,slR,qAc];kernel_rfl
theorem zbt_sub5:qA4 zbt_L zbt_G 0 13 222 5 zbt_b5:=qAr (show zbt_L 5=zbt_l5 from by kernel_rfl) fun x R kn kx kr=>qAo (step:=fun y=>zbt_p5_step x.1.2.2.1 y.1 y.2.1 y.2.2) (enc:=fun (y:Int × Int × (List Int))=>zbt_d5.e ((x.1.1,x.1.2.1,x.1.2.2.1,y.1,x.1.2.2.2.2),(x.2.1,(x.2.2.1.1,x.2.2.1.2.1,y.2.1,x.2.2.1.2.2.2),y.2.2,x.2.2.2.2))) (fun y=>by kernel_rfl) (fun y ki=>by simp only [zbt_p5_step,-eq_self,qAd,qAf,obA,obS,slL,slR,qAc]; kernel_rfl) (x.1.2.2.2.1,x.2.2.1.2.2.1,x.2.2.2.1)
theorem zbt_sub6:qA4 zbt_L zbt_G 0 13 222 6 zbt_b6:=qAr (show zbt_L 6=zbt_l6 from by kernel_rfl) fun x R kn kx kr=>qAo (step:=fun y=>zbt_p6_step y) (enc:=fun (y:(List Int))=>zbt_d6.e (x.1,(x.2.1,x.2.2.1,y,x.2.2.2.2))) (fun y=>by kernel_rfl) (fun y ki=>by simp only [zbt_p6_step,-eq_self,qAd,qAf,obA,obS,slL,slR,qAc]; kernel_rfl) x.2.2.2.1
theorem zbt_sub4:qA4 zbt_L zbt_G 0 13 222 4 zbt_b4:=qAr (show zbt_L 4=zbt_l4 from by kernel_rfl) fun x R kn kx kr=>by
 simp only [zbt_p4,-eq_self,qAd,qAf,obA,obS,slL,slR,qAc];kernel_rfl
theorem zbt_sub1:qA4 zbt_L zbt_G 0 13 222 1 zbt_b1:=qAr (show zbt_L 1=zbt_l1 from by kernel_rfl) fun x R kn kx kr=>by
 simp only [zbt_p1,-eq_self,qAd,qAf,obA,obS,slL,slR,qAc];kernel_rfl
theorem zbt_sub0:qA4 zbt_L zbt_G 0 13 222 0 zbt_b0:=qAr (show zbt_L 0=zbt_l0 from by kernel_rfl) fun x R kn kx kr=>by
 simp only [zbt_p0,-eq_self,qAd,qAf,obA,obS,slL,slR,qAc];kernel_rfl
theorem zbt_subs:qAn zbt_L zbt_G 0 13 222 zbt_q:=qAk (show qAq zbt_L zbt_G 0 13 222 [(0,zbt_b0),(1,zbt_b1),(2,zbt_b2),(3,zbt_b3),(4,zbt_b4),(5,zbt_b5),(6,zbt_b6)] from ⟨zbt_sub0,zbt_sub1,zbt_sub2,zbt_sub3,zbt_sub4,zbt_sub5,zbt_sub6,tV⟩)
def zbt_da:=(qAb (dVC (dCO dS)) dNil)
def zbt_db:=(dNil:Dec Unit (List SB))
def zbt_c:CS:=mkC zbt_da zbt_db (fun x y=>zbt_s x.1) (fun x y r=>.tup [.agg [.vB r.1.minus,.own 0,.vI r.1.off,.vB r.1.down,.own 1,.vB r.1.plain,.vS r.1.text],.o (.vB r.2)]) fun x y r=>[.row .i64 3 r.1.digits,.row .i64 3 r.1.exp_]
theorem zbt_val:qAl Tryz.prog 68 zbt_c:=qAm zbt_chk 13 zbt_Gok 0 (fun x=>Nat.le_of_ble_eq_true rfl) (fun y=>rfl) zbt_subs fun x y=>by
 simp only [zbt_s,-eq_self,qAd,qAf,obA,obS,slL,slR,qAc];kernel_rfl
def zbt_w:CQ:=qBr [] zbt_c
theorem zbt_ok:qAg Tryz.prog 68 zbt_w:=qBc zbt_val
def zbu_b0:IQ:=(.loop [4,6,7] (.seq (.seq (rg 25 [oM 21 t7,oP 22 (.faddr 6 t4),oP 23 (.load none t22),oP 24 (.lenS t23),oP 25 (.bi .lss t21 t24)]) (.cond t25 .skip (.cn [4,6] (.exit 0)))) (.seq (.block 1 (.seq (rg 8 [oP 28 (.faddr 6 t4),oP 29 (.load none t28),oM 30 t7,oP 31 (.index t29 t30),oP 32 (.bi .sub t31 (vC 48)),oP 33 (.conv false .i64 t32),oM 8 t33]) (.seq (.seq (rg 38 [oM 34 t6,oM 35 t8,oP 36 (.bi .add (.v (.int .i64 (-9223372036854775808))) t35),oP 37 (.bin true .quo t36 (vI 10)),oP 38 (.bi .lss t34 t37)]) (.cond t38 (.seq (rg 3 [oP 2 (.mv (vI 0)),oP 3 (.mv vF)]) (.cn [2,3] .ret)) .skip)) (rg 6 [oM 39 t6,oP 40 (.bi .mul (vI 10) t39),oM 41 t8,oP 42 (.bi .sub t40 t41),oM 6 t42])))) (rg 7 [oM 26 t7,oP 27 (.bi .add t26 (vI 1)),oM 7 t27]))))
def zbu_q:IQ:=(.seq (rg 3 [oP 2 (.mv (vI 0)),oP 3 (.mv vF)]) (.seq (rg 5 [oM 10 t0,oP 11 (.call 68 [t10]),oM 9 t11,oP 12 (.extract t9 0),oP 13 (.extract t9 1),oP 4 (.alloc 98 [.bool false,.slice none 0 0,.int .i64 0,.bool false,.slice none 0 0,.bool false,.string ⟨#[]⟩]),oN (.store 7 t4 t12),oM 5 t13]) (.seq (.seq (rg 20 [oM 14 t5,oP 15 (.un .not t14),oM 16 t15,oE 17 (.faddr 5 t4) 16,oE 18 (.load none t17) 16,oE 19 (.un .not t18) 16,oP 20 (.pick t16 vT t19)]) (.cond t20 (.seq (rg 3 [oP 2 (.mv (vI 0)),oP 3 (.mv vF)]) (.cn [2,3] .ret)) .skip)) (.seq (rg 6 [oP 6 (.mv (vI 0))]) (.seq (.seq (rg 7 [oP 7 (.mv (vI 0))]) (.block 0 (.cn [4,6,7] (.sub 0 zbu_b0)))) (.seq (.seq (rg 44 [oP 43 (.faddr 0 t4),oP 44 (.load none t43)]) (.cond t44 (.seq (rg 3 [oM 45 t6,oM 2 t45,oP 3 (.mv vT)]) (.cn [2,3] .ret)) .skip)) (.seq (.seq (rg 47 [oM 46 t6,oP 47 (.bi .eql t46 (.v (.int .i64 (-9223372036854775808))))]) (.cond t47 (.seq (rg 3 [oP 2 (.mv (vI 0)),oP 3 (.mv vF)]) (.cn [2,3] .ret)) .skip)) (.seq (rg 3 [oM 48 t6,oP 49 (.un .neg t48),oM 2 t49,oP 3 (.mv vT)]) (.cn [2,3] .ret)))))))))
theorem zbu_chk:chk Tryz.prog 58 [37]=some (zbu_q.erase,[.tmp 2,.tmp 3],50):=by kernel_rfl
def qDz (v i:Int) (qHc:BA):Option ((Int × Int) ⊕ ((Int × Bool) ⊕ Int)) :=
 bif decide (i<(qHc.size:Int)) then (
  gd (0≤i∧i<qHc.size) <|
  gd (qAe (((bAt qHc i) - (48:Int)) % 256)) <|
  gd (qAe ((-9223372036854775808:Int)+(((bAt qHc i) - (48:Int)) % 256))) <|
  gd ((10:Int)≠0∧qAe (Int.tdiv ((-9223372036854775808:Int)+(((bAt qHc i) - (48:Int)) % 256)) (10:Int))) <|
  bif decide (v<(Int.tdiv ((-9223372036854775808:Int)+(((bAt qHc i) - (48:Int)) % 256)) (10:Int))) then (
   some (.inr (.inl ((0:Int),false))))
  else (
   gd (qAe ((10:Int)*v)) <|
   gd (qAe (((10:Int)*v) - (((bAt qHc i) - (48:Int)) % 256))) <|
   gd (qAe (i+(1:Int))) <|
   some (.inl ((((10:Int)*v) - (((bAt qHc i) - (48:Int)) % 256)),(i+(1:Int))))))
 else (
  some (.inr (.inr v)))
def zbu_p0 (v i:Int) (qHc:BA):Option ((Int × Bool) ⊕ Int) :=
 qA0 (fun x:(Int × Int)=>qDz x.1 x.2 qHc) (v,i)
def zbu_s (text:BA):Option (Int × Bool) :=
 (zbt_s text).bind fun r3 =>
 bif ((!r3.2) || (!r3.1.plain)) then (
  some ((0:Int),false))
 else (
  (zbu_p0 (0:Int) (0:Int) r3.1.text).bind fun o4=>(Sum.elim (fun (o4_0:Int × Bool) =>
   some (o4_0.1,o4_0.2)) (fun (o4_1:Int) =>
   bif r3.1.minus then (
    some (o4_1,true))
   else (
    bif decide (o4_1=(-9223372036854775808:Int)) then (
     some ((0:Int),false))
    else (
     gd (qAe (0 - o4_1)) <|
     some ((0 - o4_1),true))))) o4)
def zbu_G:Nat→Option CQ:=tblQ [(68,zbt_w)]
theorem zbu_Gok:∀f C,zbu_G f=some C→qAg Tryz.prog f C:=qAj ⟨zbt_ok,tV⟩
def zbu_d0:=(dQS (qAb (dSO 4 (dH 0 0)) (qAb (dSO 6 dZ) (qAb (dSO 7 dZ) dNil))) (qAb (qGy 98 (qAb dB (qAb (dO 1) zDGC6))) zDGC7))
def zbu_l0:SubQ:=mkL zbu_d0 (fun x=>zbu_p0 x.1.2.1 x.1.2.2.1 x.2.1.2.2.2.2.2.2.1) fun x r R kn kx kr=>(Sum.elim (fun (r_0:Int × Bool)=>kr ⟨[sL 2 (.vI r_0.1),sL 3 (.vB r_0.2)],[],[]⟩) (fun (r_1:Int)=>kx 0 ⟨[sL 4 (.hd 0 0),sL 6 (.vI r_1)],[],[.cells 98 [.vB x.2.1.1,.own 1,.vI x.2.1.2.2.1,.vB x.2.1.2.2.2.1,.own 2,.vB x.2.1.2.2.2.2.2.1,.vS x.2.1.2.2.2.2.2.2.1],.row .i64 3 x.2.2.1,.row .i64 3 x.2.2.2.1]⟩)) r
def zbu_L:Nat→SubQ:=tblL [(0,zbu_l0)]
theorem zbu_sub0:qA4 zbu_L zbu_G 0 9 50 0 zbu_b0:=qAr (show zbu_L 0=zbu_l0 from by kernel_rfl) fun x R kn kx kr=>qAo (step:=fun y=>qDz y.1 y.2 x.2.1.2.2.2.2.2.2.1) (enc:=fun (y:Int × Int)=>zbu_d0.e ((x.1.1,y.1,y.2,x.1.2.2.2),x.2)) (fun y=>by kernel_rfl) (fun y ki=>by simp only [qDz,-eq_self,qAd,qAf,obA,obS,slL,slR,qAc]; kernel_rfl) (x.1.2.1,x.1.2.2.1)
theorem zbu_subs:qAn zbu_L zbu_G 0 9 50 zbu_q:=qAk (show qAq zbu_L zbu_G 0 9 50 [(0,zbu_b0)] from ⟨zbu_sub0,tV⟩)
def zbu_da:=(qAb (dVC (dCO dS)) dNil)
def zbu_db:=(dNil:Dec Unit (List SB))
def zbu_c:CS:=mkC zbu_da zbu_db (fun x y=>zbu_s x.1) (fun x y r=>.tup [.o (.vI r.1),.o (.vB r.2)]) fun x y r=>[]
theorem zbu_val:qAl Tryz.prog 58 zbu_c:=qAm zbu_chk 9 zbu_Gok 0 (fun x=>Nat.le_of_ble_eq_true rfl) (fun y=>rfl) zbu_subs fun x y=>by
 simp only [zbu_s,-eq_self,qAd,qAf,obA,obS,slL,slR,qAc];kernel_rfl
def zbu_w:CQ:=qCj [] zbu_c
theorem zbu_ok:qAg Tryz.prog 58 zbu_w:=qAx zbu_val
end
end Go.Proofs.YtnifdcmeffnpaaaGreatDoor
