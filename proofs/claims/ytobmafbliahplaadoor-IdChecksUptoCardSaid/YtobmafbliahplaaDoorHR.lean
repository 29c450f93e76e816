/-
  Functions as the engine reads them (printed by gen.py).
-/
import Derived.Test.YtobmafbliahplaaDoorEngO
import Derived.Test.YtobmafbliahplaaDoorProg
import Derived.Test.YtobmafbliahplaaDoorHB
import Derived.Test.YtobmafbliahplaaDoorPSha
namespace Go.Proofs.YtobmafbliahplaaDoor
open Go.Eng
set_option linter.unusedVariables false
set_option linter.unusedSimpArgs false
set_option maxRecDepth 100000
noncomputable section
def zbm_b1:IQ:=(.join [] [] (.cond t9 (.seq (rg 2 [oP 2 (.mv (vI 2))]) (.cn [2] .ret)) (.seq (.seq (rg 14 [oP 15 (.bi .eql t3 (vI 3)),oM 14 t15]) (.cond t14 .skip (.seq (rg 14 [oP 16 (.bi .eql t3 (vI 6)),oM 14 t16]) (.cond t14 .skip (.seq (rg 14 [oP 17 (.bi .eql t3 (vI 9)),oM 14 t17]) (.cond t14 .skip (rg 14 [oP 18 (.bi .eql t3 (vI 12)),oM 14 t18]))))))) (.cond t14 (.seq (rg 2 [oP 2 (.mv (vI 3))]) (.cn [2] .ret)) .skip))))
def zbm_b0:IQ:=(.join [] [] (.cond t4 (.seq (rg 2 [oP 2 (.mv (vI 1))]) (.cn [2] .ret)) (.seq (.seq (rg 9 [oP 10 (.bi .eql t3 (vI 2)),oM 9 t10]) (.cond t9 .skip (.seq (rg 9 [oP 11 (.bi .eql t3 (vI 5)),oM 9 t11]) (.cond t9 .skip (.seq (rg 9 [oP 12 (.bi .eql t3 (vI 8)),oM 9 t12]) (.cond t9 .skip (rg 9 [oP 13 (.bi .eql t3 (vI 11)),oM 9 t13]))))))) (.cn [3,9] (.sub 1 zbm_b1)))))
def zbm_q:IQ:=(.seq (rg 2 [oP 2 (.mv (vI 0))]) (.seq (.seq (rg 3 [oM 3 t0]) (.block 0 (.seq (.seq (rg 4 [oP 5 (.bi .eql t3 (vI 1)),oM 4 t5]) (.cond t4 .skip (.seq (rg 4 [oP 6 (.bi .eql t3 (vI 4)),oM 4 t6]) (.cond t4 .skip (.seq (rg 4 [oP 7 (.bi .eql t3 (vI 7)),oM 4 t7]) (.cond t4 .skip (rg 4 [oP 8 (.bi .eql t3 (vI 10)),oM 4 t8]))))))) (.cn [3,4] (.sub 0 zbm_b0))))) (.seq (rg 2 [oP 2 (.mv (vI 0))]) (.cn [2] .ret))))
def zbm_p1 (x3_:Int) (x9_:Bool):Option (Int ⊕ Unit) :=
 bif x9_ then (
  some (.inl (2:Int)))
 else (
  bif decide (x3_=(3:Int)) then (
   bif decide (x3_=(3:Int)) then (
    some (.inl (3:Int)))
   else (
    some (.inr ())))
  else (
   bif decide (x3_=(6:Int)) then (
    bif decide (x3_=(6:Int)) then (
     some (.inl (3:Int)))
    else (
     some (.inr ())))
   else (
    bif decide (x3_=(9:Int)) then (
     bif decide (x3_=(9:Int)) then (
      some (.inl (3:Int)))
     else (
      some (.inr ())))
    else (
     bif decide (x3_=(12:Int)) then (
      some (.inl (3:Int)))
     else (
      some (.inr ()))))))
def zbm_p0 (x3_:Int) (x4_:Bool):Option (Int ⊕ Unit) :=
 bif x4_ then (
  some (.inl (1:Int)))
 else (
  bif decide (x3_=(2:Int)) then (
   (zbm_p1 x3_ (decide (x3_=(2:Int)))).bind fun o1=>(Sum.elim (fun (o1_0:Int) =>
    some (.inl o1_0)) (fun (o1_1:Unit) =>
    some (.inr ()))) o1)
  else (
   bif decide (x3_=(5:Int)) then (
    (zbm_p1 x3_ (decide (x3_=(5:Int)))).bind fun o2=>(Sum.elim (fun (o2_0:Int) =>
     some (.inl o2_0)) (fun (o2_1:Unit) =>
     some (.inr ()))) o2)
   else (
    bif decide (x3_=(8:Int)) then (
     (zbm_p1 x3_ (decide (x3_=(8:Int)))).bind fun o3=>(Sum.elim (fun (o3_0:Int) =>
      some (.inl o3_0)) (fun (o3_1:Unit) =>
      some (.inr ()))) o3)
    else (
     (zbm_p1 x3_ (decide (x3_=(11:Int)))).bind fun o4=>(Sum.elim (fun (o4_0:Int) =>
      some (.inl o4_0)) (fun (o4_1:Unit) =>
      some (.inr ()))) o4))))
def zbm_s (a:Int):Option Int :=
 bif decide (a=(1:Int)) then (
  (zbm_p0 a (decide (a=(1:Int)))).bind fun o5=>(Sum.elim (fun (o5_0:Int) =>
   some o5_0) (fun (o5_1:Unit) =>
   some (0:Int))) o5)
 else (
  bif decide (a=(4:Int)) then (
   (zbm_p0 a (decide (a=(4:Int)))).bind fun o6=>(Sum.elim (fun (o6_0:Int) =>
    some o6_0) (fun (o6_1:Unit) =>
    some (0:Int))) o6)
  else (
   bif decide (a=(7:Int)) then (
    (zbm_p0 a (decide (a=(7:Int)))).bind fun o7=>(Sum.elim (fun (o7_0:Int) =>
     some o7_0) (fun (o7_1:Unit) =>
     some (0:Int))) o7)
   else (
    (zbm_p0 a (decide (a=(10:Int)))).bind fun o8=>(Sum.elim (fun (o8_0:Int) =>
     some o8_0) (fun (o8_1:Unit) =>
     some (0:Int))) o8)))
def zbm_G:Nat→Option CQ:=tblQ []
def zbm_d1:=(dQS (qAa (dSO 3 dZ) (qAa (dSO 9 dB) dNil)) dNil)
def zbm_l1:SubQ:=mkL zbm_d1 (fun x=>zbm_p1 x.1.1 x.1.2.1) fun x r R kn kx kr=>(Sum.elim (fun (r_0:Int)=>kr ⟨[sL 2 (.vI r_0)],[],[]⟩) (fun (r_1:Unit)=>kn ⟨[],[],[]⟩)) r
def zbm_d0:=(dQS (qAa (dSO 3 dZ) (qAa (dSO 4 dB) dNil)) dNil)
def zbm_l0:SubQ:=mkL zbm_d0 (fun x=>zbm_p0 x.1.1 x.1.2.1) fun x r R kn kx kr=>(Sum.elim (fun (r_0:Int)=>kr ⟨[sL 2 (.vI r_0)],[],[]⟩) (fun (r_1:Unit)=>kn ⟨[],[],[]⟩)) r
def zbm_L:Nat→SubQ:=tblL [(1,zbm_l1),(0,zbm_l0)]
theorem zbm_sub1:qA2 zbm_L zbm_G 0 4 19 1 zbm_b1:=qAm (show zbm_L 1=zbm_l1 from by kernel_rfl) fun x R kn kx kr=>by
 simp only [zbm_p1,-eq_self,sZ];kernel_rfl
theorem zbm_sub0:qA2 zbm_L zbm_G 0 4 19 0 zbm_b0:=qAm (show zbm_L 0=zbm_l0 from by kernel_rfl) fun x R kn kx kr=>by
 simp only [zbm_p0,-eq_self,sZ];kernel_rfl
def zbm_c:CS:=mkC (qAa (dVC (dCO dZ)) dNil) dNil (fun x y=>zbm_s x.1) (fun x y r=>.c (.o (.vI r))) fun x y r=>[]
theorem zbm_val:qAl Tryd.prog 18 zbm_c:=vl1 zbm_q [.tmp 2] 19 4 0 (show qA8 zbm_L zbm_G 0 4 19 [(0,zbm_b0),(1,zbm_b1)] from ⟨zbm_sub0,zbm_sub1,tV⟩) (fun f C h=>by cases h) fun x y=>by
 simp only [zbm_s,-eq_self,sZ];kernel_rfl
def zbm_w:CQ:=qBu [] zbm_c
theorem zbm_ok:qAi Tryd.prog 18 zbm_w:=qAw zbm_val
def zcj_b0:IQ:=(.loop [0,1,5] (.seq (.seq (rg 20 [oM 14 t5,oP 15 (.len t14),oM 16 t1,oP 17 (.bi .rem t15 t16),oM 18 t1,oP 19 (.bi .sub t18 (vI 8)),oP 20 (.bi .neq t17 t19)]) (.cond t20 .skip (.cn [0,5] (.exit 0)))) (.block 1 (rg 5 [oM 21 t5,oP 22 (.bslice 5 1 1 [.int .u8 0] [(0,(vC 0))]),oP 23 (.append 5 1 1 [.int .u8 0] t21 t22),oM 5 t23]))))
def zcj_b1:IQ:=(.loop [5,6,7] (.seq (.seq (rg 29 [oM 28 t7,oP 29 (.bi .geq t28 (vI 0))]) (.cond t29 .skip (.cn [5] (.exit 2)))) (.seq (.block 3 (rg 5 [oM 32 t5,oM 33 t6,oM 34 t7,oP 35 (.bi .mul (vI 8) t34),oP 36 (.conv false .u64 t35),oP 37 (.bi .shr t33 t36),oP 38 (.bi .and t37 (.v (.int .u64 255))),oP 39 (.conv false .u8 t38),oP 40 (.bslice 5 1 1 [.int .u8 0] [(0,t39)]),oP 41 (.append 5 1 1 [.int .u8 0] t32 t40),oM 5 t41])) (rg 7 [oM 30 t7,oP 31 (.bi .sub t30 (vI 1)),oM 7 t31]))))
def zcj_q:IQ:=(.seq (rg 4 [oP 4 (.mv (.v (.slice none 0 0)))]) (.seq (rg 5 [oP 5 (.mv (.v (.slice none 0 0)))]) (.seq (rg 5 [oM 8 t5,oM 9 t0,oP 10 (.append 5 1 1 [.int .u8 0] t8 t9),oM 5 t10]) (.seq (rg 5 [oM 11 t5,oP 12 (.bslice 5 1 1 [.int .u8 0] [(0,(vC 128))]),oP 13 (.append 5 1 1 [.int .u8 0] t11 t12),oM 5 t13]) (.seq (.block 0 (.cn [0,1,5] (.sub 0 zcj_b0))) (.seq (rg 6 [oM 24 t0,oP 25 (.len t24),oP 26 (.conv false .u64 t25),oP 27 (.bi .mul t26 (.v (.int .u64 8))),oM 6 t27]) (.seq (.seq (rg 7 [oP 7 (.mv (vI 7))]) (.block 2 (.cn [5,6,7] (.sub 1 zcj_b1)))) (.seq (rg 4 [oM 42 t5,oM 4 t42]) (.canon [(4,none,.u8,5)] [4] .ret)))))))))
def qD4 (block:Int) (out:List Int):Option (((List Int)) ⊕ ((List Int))) :=
 gd (0≤(out.length:Int)∧1≤block) <|
 gd (qAc (block - (8:Int))) <|
 bif (!decide (((out.length:Int) % block)=(block - (8:Int)))) then (
  gd (out.length+([(0:Int)]:List Int).length≤9223372036854775807∧(out.length+([(0:Int)]:List Int).length)*1≤140737488355328) <|
  some (.inl (out++[(0:Int)])))
 else (
  some (.inr out))
def zcj_p0 (block:Int) (out:List Int):Option ((List Int)) :=
 qAn (fun x:((List Int))=>qD4 block x) out
def qD5 (n i:Int) (out:List Int):Option ((Int × (List Int)) ⊕ ((List Int))) :=
 bif decide ((0:Int)≤i) then (
  gd (qAc ((8:Int)*i)) <|
  gd (0≤(((8:Int)*i) % 18446744073709551616)) <|
  gd (out.length+([((qAg .u64 (n / 2 ^ (min (Int.toNat (((8:Int)*i) % 18446744073709551616)) (IntKind.bits .u64))) (255:Int)) % 256)]:List Int).length≤9223372036854775807∧(out.length+([((qAg .u64 (n / 2 ^ (min (Int.toNat (((8:Int)*i) % 18446744073709551616)) (IntKind.bits .u64))) (255:Int)) % 256)]:List Int).length)*1≤140737488355328) <|
  gd (qAc (i - (1:Int))) <|
  some (.inl ((i - (1:Int)),(out++[((qAg .u64 (n / 2 ^ (min (Int.toNat (((8:Int)*i) % 18446744073709551616)) (IntKind.bits .u64))) (255:Int)) % 256)]))))
 else (
  some (.inr out))
def zcj_p1 (n i:Int) (out:List Int):Option ((List Int)) :=
 qAn (fun x:(Int × (List Int))=>qD5 n x.1 x.2) (i,out)
def zcj_s (b:(List Int)) (block:Int):Option ((List Int)) :=
 gd (b.length≤9223372036854775807∧b.length*1≤140737488355328) <|
 gd (b.length+([(128:Int)]:List Int).length≤9223372036854775807∧(b.length+([(128:Int)]:List Int).length)*1≤140737488355328) <|
 (zcj_p0 block (b++[(128:Int)])).bind fun o3 =>
 (zcj_p1 ((((b.length:Int) % 18446744073709551616)*(8:Int)) % 18446744073709551616) (7:Int) o3).bind fun o4 =>
 some o4
def zcj_G:Nat→Option CQ:=tblQ []
def zDHR2:=(qAa (qAt .u8) (qAa (dRow .u8 5) dNil))
def zcj_d0:=(dQS (qAa (dSO 0 (dO 0)) (qAa (dSO 1 dZ) (qAa (dSO 5 (dO 1)) dNil))) zDHR2)
def zcj_l0:SubQ:=mkL zcj_d0 (fun x=>zcj_p0 x.1.2.1 x.2.2.1) fun x r R kn kx kr=>kx 0 ⟨[sL 0 (.own 0),sL 5 (.own 1)],[],[.view .u8 x.2.1,.row .u8 5 r]⟩
def zcj_d1:=(dQS (qAa (dSO 5 (dO 1)) (qAa (dSO 6 (dI .u64)) (qAa (dSO 7 dZ) dNil))) zDHR2)
def zcj_l1:SubQ:=mkL zcj_d1 (fun x=>zcj_p1 x.1.2.1 x.1.2.2.1 x.2.2.1) fun x r R kn kx kr=>kx 2 ⟨[sL 5 (.own 1)],[],[.view .u8 x.2.1,.row .u8 5 r]⟩
def zcj_L:Nat→SubQ:=tblL [(0,zcj_l0),(1,zcj_l1)]
theorem zcj_sub0:qA2 zcj_L zcj_G 1 8 43 0 zcj_b0:=qAm (show zcj_L 0=zcj_l0 from by kernel_rfl) fun x R kn kx kr=>qAf (step:=fun y=>qD4 x.1.2.1 y) (enc:=fun (y:(List Int))=>zcj_d0.e (x.1,(x.2.1,y,x.2.2.2))) (fun y=>by kernel_rfl) (fun y ki=>by simp only [qD4,-eq_self,sZ]; kernel_rfl) x.2.2.1
theorem zcj_sub1:qA2 zcj_L zcj_G 1 8 43 1 zcj_b1:=qAm (show zcj_L 1=zcj_l1 from by kernel_rfl) fun x R kn kx kr=>qAf (step:=fun y=>qD5 x.1.2.1 y.1 y.2) (enc:=fun (y:Int × (List Int))=>zcj_d1.e ((x.1.1,x.1.2.1,y.1,x.1.2.2.2),(x.2.1,y.2,x.2.2.2))) (fun y=>by kernel_rfl) (fun y ki=>by simp only [qD5,-eq_self,sZ]; kernel_rfl) (x.1.2.2.1,x.2.2.1)
def zcj_c:CS:=mkC (qAa (dVC (dCO (dO 0))) (qAa (dVC (dCO dZ)) dNil)) (qAa (qAt .u8) dNil) (fun x y=>zcj_s y.1 x.2.1) (fun x y r=>.c (.o (.own 1))) fun x y r=>[.view .u8 y.1,.row .u8 5 r]
theorem zcj_val:qAl Tryd.prog 53 zcj_c:=vl1 zcj_q [.tmp 4] 43 8 1 (show qA8 zcj_L zcj_G 1 8 43 [(0,zcj_b0),(1,zcj_b1)] from ⟨zcj_sub0,zcj_sub1,tV⟩) (fun f C h=>by cases h) fun x y=>by
 simp only [zcj_s,-eq_self,sZ];kernel_rfl
def zcj_w:CQ:=qBk [(0,none,some (.u8,5))] (qDb [false] zcj_c)
theorem zcj_ok:qAi Tryd.prog 53 zcj_w:=qBd zcj_val
def zcm_q:IQ:=(.seq (rg 4 [oP 4 (.mv (.v (.int .u32 0)))]) (.seq (rg 4 [oM 5 t0,oM 6 t1,oP 7 (.conv false .u64 t6),oP 8 (.bi .shr t5 t7),oM 9 t0,oM 10 t1,oP 11 (.bi .sub (vI 32) t10),oP 12 (.conv false .u64 t11),oP 13 (.bi .shl t9 t12),oP 14 (.bi .or t8 t13),oM 4 t14]) (.cn [4] .ret)))
def qCp (x_ n:Int):Option Int :=
 gd (0≤(n % 18446744073709551616)) <|
 gd (qAc ((32:Int) - n)) <|
 gd (0≤(((32:Int) - n) % 18446744073709551616)) <|
 some (qBf .u32 (x_ / 2 ^ (min (Int.toNat (n % 18446744073709551616)) (IntKind.bits .u32))) ((x_*2 ^ (min (Int.toNat (((32:Int) - n) % 18446744073709551616)) (IntKind.bits .u32))) % 4294967296))
def zcm_c:CS:=mkC (qAa (dVC (dCO (dI .u32))) (qAa (dVC (dCO dZ)) dNil)) dNil (fun x y=>qCp x.1 x.2.1) (fun x y r=>.c (.o (.val (.int .u32 r)))) fun x y r=>[]
theorem zcm_val:qAl Tryd.prog 54 zcm_c:=vl0 zcm_q [.tmp 4] 15 5 0 [] trivial fun x y=>by
 simp only [qCp,-eq_self,sZ];kernel_rfl
def zcm_w:CQ:=qBu [] zcm_c
theorem zcm_ok:qAi Tryd.prog 54 zcm_w:=qAw zcm_val
def zcl_b1:IQ:=(.loop [3,4,5,6,7] (.seq (.seq (rg 30 [oM 29 t7,oP 30 (.bi .lss t29 (vI 64))]) (.cond t30 .skip (.cn [3,4,5,6] (.exit 2)))) (.seq (.block 3 (.seq (.seq (rg 34 [oM 33 t7,oP 34 (.bi .lss t33 (vI 16))]) (.cond t34 (.seq (rg 8 [oM 35 t5,oM 36 t7,oP 37 (.bi .mul (vI 4) t36),oP 38 (.bi .add t35 t37),oM 8 t38]) (.seq (.reg 0 (some [0,1,2,3,4,5,6,7,8,9,10,11,12,13,14,15,16,17,18,19,20,21,22,23,24,25,26,27,28,29,30,31]) [oM 39 t7,oM 40 t4,oM 41 t8,oP 42 (.iaddr 1 t40 t41),oP 43 (.load none t42),oP 44 (.conv false .u32 t43),oP 45 (.bi .shl t44 (.v (.int .u64 24))),oM 46 t4,oM 47 t8,oP 48 (.bi .add t47 (vI 1)),oP 49 (.iaddr 1 t46 t48),oP 50 (.load none t49),oP 51 (.conv false .u32 t50),oP 52 (.bi .shl t51 (.v (.int .u64 16))),oP 53 (.bi .or t45 t52),oM 54 t4,oM 55 t8,oP 56 (.bi .add t55 (vI 2)),oP 57 (.iaddr 1 t54 t56),oP 58 (.load none t57),oP 59 (.conv false .u32 t58),oP 60 (.bi .shl t59 (.v (.int .u64 8))),oP 61 (.bi .or t53 t60),oM 62 t4,oM 63 t8,oP 64 (.bi .add t63 (vI 3)),oP 65 (.iaddr 1 t62 t64),oP 66 (.load none t65),oP 67 (.conv false .u32 t66),oP 68 (.bi .or t61 t67),oP 69 (.ext (.pidx 64 1) [t6,t39]),oN (.store 1 t69 t68)]) (.exit 3))) .skip)) (.seq (rg 9 [oM 70 t7,oP 71 (.bi .sub t70 (vI 15)),oP 72 (.ext (.pidx 64 1) [t6,t71]),oP 73 (.load none t72),oM 9 t73]) (.seq (rg 10 [oM 74 t7,oP 75 (.bi .sub t74 (vI 2)),oP 76 (.ext (.pidx 64 1) [t6,t75]),oP 77 (.load none t76),oM 10 t77]) (.reg 0 (some [0,1,2,3,4,5,7,10,11,14,15,16,17,19,21,24,25,6,8,9,12,13,18,20,22,23,26,27,28,29]) [oM 78 t7,oM 79 t7,oP 80 (.bi .sub t79 (vI 16)),oP 81 (.ext (.pidx 64 1) [t6,t80]),oP 82 (.load none t81),oM 83 t9,oM 85 t9,oM 88 t9,oP 89 (.bi .shr t88 (.v (.int .u64 3))),oM 92 t7,oP 93 (.bi .sub t92 (vI 7)),oP 94 (.ext (.pidx 64 1) [t6,t93]),oP 95 (.load none t94),oM 97 t10,oM 99 t10,oM 102 t10,oP 103 (.bi .shr t102 (.v (.int .u64 10))),oP 84 (.call 54 [t83,(vI 7)]),oP 86 (.call 54 [t85,(vI 18)]),oP 87 (.bi .xor t84 t86),oP 90 (.bi .xor t87 t89),oP 91 (.bi .add t82 t90),oP 96 (.bi .add t91 t95),oP 98 (.call 54 [t97,(vI 17)]),oP 100 (.call 54 [t99,(vI 19)]),oP 101 (.bi .xor t98 t100),oP 104 (.bi .xor t101 t103),oP 105 (.bi .add t96 t104),oP 106 (.ext (.pidx 64 1) [t6,t78]),oN (.store 1 t106 t105)]))))) (rg 7 [oM 31 t7,oP 32 (.bi .add t31 (vI 1)),oM 7 t32]))))
def zcl_b2:IQ:=(.loop [3,4,5,6,11,12] (.seq (.seq (rg 109 [oM 108 t12,oP 109 (.bi .lss t108 (vI 64))]) (.cond t109 .skip (.cn [3,4,5,11] (.exit 4)))) (.seq (.block 5 (.seq (rg 13 [oP 112 (.faddr 0 t11),oP 113 (.load none t112),oM 13 t113]) (.seq (rg 14 [oP 114 (.faddr 4 t11),oP 115 (.load none t114),oM 14 t115]) (.seq (.reg 15 (some [0,1,2,4,7,11,12,13,14,15,16,17,18,19,20,22,23,24,26,27,28,3,5,6,8,9,10,21,25,29,30]) [oP 116 (.faddr 7 t11),oP 117 (.load none t116),oM 118 t14,oM 120 t14,oM 123 t14,oM 127 t14,oP 128 (.faddr 5 t11),oP 129 (.load none t128),oP 130 (.bi .and t127 t129),oM 131 t14,oP 132 (.un .xor t131),oP 133 (.faddr 6 t11),oP 134 (.load none t133),oP 135 (.bi .and t132 t134),oP 136 (.bi .xor t130 t135),oM 138 t12,oP 139 (.ext (.pidx 64 1) [(.v (.pointer (some ⟨6,0,none⟩))),t138]),oP 140 (.load none t139),oM 142 t12,oP 143 (.ext (.pidx 64 1) [t6,t142]),oP 144 (.load none t143),oP 119 (.call 54 [t118,(vI 6)]),oP 121 (.call 54 [t120,(vI 11)]),oP 122 (.bi .xor t119 t121),oP 124 (.call 54 [t123,(vI 25)]),oP 125 (.bi .xor t122 t124),oP 126 (.bi .add t117 t125),oP 137 (.bi .add t126 t136),oP 141 (.bi .add t137 t140),oP 145 (.bi .add t141 t144),oM 15 t145]) (.seq (.reg 16 (some [0,2,5,8,9,10,11,12,13,14,15,16,17,18,19,20,21,22,1,3,4,6,7,23,24]) [oM 146 t13,oM 148 t13,oM 151 t13,oM 154 t13,oP 155 (.faddr 1 t11),oP 156 (.load none t155),oP 157 (.bi .and t154 t156),oM 158 t13,oP 159 (.faddr 2 t11),oP 160 (.load none t159),oP 161 (.bi .and t158 t160),oP 162 (.bi .xor t157 t161),oP 163 (.faddr 1 t11),oP 164 (.load none t163),oP 165 (.faddr 2 t11),oP 166 (.load none t165),oP 167 (.bi .and t164 t166),oP 168 (.bi .xor t162 t167),oP 147 (.call 54 [t146,(vI 2)]),oP 149 (.call 54 [t148,(vI 13)]),oP 150 (.bi .xor t147 t149),oP 152 (.call 54 [t151,(vI 22)]),oP 153 (.bi .xor t150 t152),oP 169 (.bi .add t153 t168),oM 16 t169]) (rg 0 [oM 170 t15,oM 171 t16,oP 172 (.bi .add t170 t171),oM 173 t13,oP 174 (.faddr 1 t11),oP 175 (.load none t174),oP 176 (.faddr 2 t11),oP 177 (.load none t176),oP 178 (.faddr 3 t11),oP 179 (.load none t178),oM 180 t15,oP 181 (.bi .add t179 t180),oM 182 t14,oP 183 (.faddr 5 t11),oP 184 (.load none t183),oP 185 (.faddr 6 t11),oP 186 (.load none t185),oP 187 (.build [.int .u32 0,.int .u32 0,.int .u32 0,.int .u32 0,.int .u32 0,.int .u32 0,.int .u32 0,.int .u32 0] [(0,1,t172),(1,1,t173),(2,1,t175),(3,1,t177),(4,1,t181),(5,1,t182),(6,1,t184),(7,1,t186)]),oN (.store 8 t11 t187)])))))) (rg 12 [oM 110 t12,oP 111 (.bi .add t110 (vI 1)),oM 12 t111]))))
def zcl_b3:IQ:=(.loop [3,4,5,11,17] (.seq (.seq (rg 189 [oM 188 t17,oP 189 (.bi .lss t188 (vI 8))]) (.cond t189 .skip (.cn [3,4,5] (.exit 6)))) (.seq (.block 7 (.reg 0 (some [0,1,2,3,4,5,6,7,8,9]) [oM 192 t17,oM 193 t17,oP 194 (.ext (.pidx 8 1) [t3,t193]),oP 195 (.load none t194),oM 196 t17,oP 197 (.ext (.pidx 8 1) [t11,t196]),oP 198 (.load none t197),oP 199 (.bi .add t195 t198),oP 200 (.ext (.pidx 8 1) [t3,t192]),oN (.store 1 t200 t199)])) (rg 17 [oM 190 t17,oP 191 (.bi .add t190 (vI 1)),oM 17 t191]))))
def zcl_b0:IQ:=(.loop [3,4,5] (.seq (.seq (rg 26 [oM 23 t5,oM 24 t4,oP 25 (.len t24),oP 26 (.bi .lss t23 t25)]) (.cond t26 .skip (.cn [3] (.exit 0)))) (.seq (.block 1 (.seq (rg 6 [oP 6 (.alloc 88 (List.replicate 64 (.int .u32 0)))]) (.seq (.seq (rg 7 [oP 7 (.mv (vI 0))]) (.block 2 (.cn [3,4,5,6,7] (.sub 1 zcl_b1)))) (.seq (rg 0 [oP 107 (.load (some 8) t3),oP 11 (.alloc 83 [.int .u32 0,.int .u32 0,.int .u32 0,.int .u32 0,.int .u32 0,.int .u32 0,.int .u32 0,.int .u32 0]),oN (.store 8 t11 t107)]) (.seq (.seq (rg 12 [oP 12 (.mv (vI 0))]) (.block 4 (.cn [3,4,5,6,11,12] (.sub 2 zcl_b2)))) (.seq (rg 17 [oP 17 (.mv (vI 0))]) (.block 6 (.cn [3,4,5,11,17] (.sub 3 zcl_b3))))))))) (rg 5 [oM 27 t5,oP 28 (.bi .add t27 (vI 64)),oM 5 t28]))))
def zcl_b4:IQ:=(.loop [3,18,19] (.seq (.seq (rg 202 [oM 201 t19,oP 202 (.bi .lss t201 (vI 8))]) (.cond t202 .skip (.cn [18] (.exit 8)))) (.seq (.block 9 (.reg 18 (some [0,1,2,3,4,5,6,7,8,9,10,11,12,13,14,15,16,17,18,19,20,21,22,23,24,25]) [oM 205 t18,oM 206 t19,oP 207 (.ext (.pidx 8 1) [t3,t206]),oP 208 (.load none t207),oP 209 (.bi .shr t208 (.v (.int .u64 24))),oP 210 (.conv false .u8 t209),oM 211 t19,oP 212 (.ext (.pidx 8 1) [t3,t211]),oP 213 (.load none t212),oP 214 (.bi .shr t213 (.v (.int .u64 16))),oP 215 (.bi .and t214 (.v (.int .u32 255))),oP 216 (.conv false .u8 t215),oM 217 t19,oP 218 (.ext (.pidx 8 1) [t3,t217]),oP 219 (.load none t218),oP 220 (.bi .shr t219 (.v (.int .u64 8))),oP 221 (.bi .and t220 (.v (.int .u32 255))),oP 222 (.conv false .u8 t221),oM 223 t19,oP 224 (.ext (.pidx 8 1) [t3,t223]),oP 225 (.load none t224),oP 226 (.bi .and t225 (.v (.int .u32 255))),oP 227 (.conv false .u8 t226),oP 228 (.bslice 5 1 4 [.int .u8 0] [(0,t210),(1,t216),(2,t222),(3,t227)]),oP 229 (.append 5 1 1 [.int .u8 0] t205 t228),oM 18 t229])) (rg 19 [oM 203 t19,oP 204 (.bi .add t203 (vI 1)),oM 19 t204]))))
def zcl_q:IQ:=(.seq (rg 2 [oP 2 (.mv (.v (.slice none 0 0)))]) (.seq (rg 0 [oP 20 (.load (some 8) (.v (.pointer (some ⟨5,0,none⟩)))),oP 3 (.alloc 83 [.int .u32 0,.int .u32 0,.int .u32 0,.int .u32 0,.int .u32 0,.int .u32 0,.int .u32 0,.int .u32 0]),oN (.store 8 t3 t20)]) (.seq (rg 4 [oM 21 t0,oP 22 (.call 53 [t21,(vI 64)]),oM 4 t22]) (.seq (.seq (rg 5 [oP 5 (.mv (vI 0))]) (.block 0 (.cn [3,4,5] (.sub 0 zcl_b0)))) (.seq (rg 18 [oP 18 (.mv (.v (.slice none 0 0)))]) (.seq (.seq (rg 19 [oP 19 (.mv (vI 0))]) (.block 8 (.canon [(18,none,.u8,5)] [3,18,19] (.sub 4 zcl_b4)))) (.seq (rg 2 [oM 230 t18,oM 2 t230]) (.canon [(2,none,.u8,5)] [2] .ret))))))))
def qC4 (at_ i:Int) (all w_v:List Int):Option ((Int × (List Int)) ⊕ ((List Int))) :=
 bif decide (i<(64:Int)) then (
  bif decide (i<(16:Int)) then (
   gd (qAc ((4:Int)*i)) <|
   gd (qAc (at_+((4:Int)*i))) <|
   gd (0≤(at_+((4:Int)*i))∧(at_+((4:Int)*i))<all.length) <|
   gd ((Int.toNat (at_+((4:Int)*i)))<all.length) <|
   gd (0≤(24:Int)) <|
   gd (qAc ((at_+((4:Int)*i))+(1:Int))) <|
   gd (0≤((at_+((4:Int)*i))+(1:Int))∧((at_+((4:Int)*i))+(1:Int))<all.length) <|
   gd ((Int.toNat ((at_+((4:Int)*i))+(1:Int)))<all.length) <|
   gd (0≤(16:Int)) <|
   gd (qAc ((at_+((4:Int)*i))+(2:Int))) <|
   gd (0≤((at_+((4:Int)*i))+(2:Int))∧((at_+((4:Int)*i))+(2:Int))<all.length) <|
   gd ((Int.toNat ((at_+((4:Int)*i))+(2:Int)))<all.length) <|
   gd (0≤(8:Int)) <|
   gd (qAc ((at_+((4:Int)*i))+(3:Int))) <|
   gd (0≤((at_+((4:Int)*i))+(3:Int))∧((at_+((4:Int)*i))+(3:Int))<all.length) <|
   gd ((Int.toNat ((at_+((4:Int)*i))+(3:Int)))<all.length) <|
   gd (0≤i∧i<((64:Nat):Int)) <|
   gd ((Int.toNat i)<64) <|
   gd (qAc (i+(1:Int))) <|
   some (.inl ((i+(1:Int)),((nrm 64 w_v).set (Int.toNat i) (qBf .u32 (qBf .u32 (qBf .u32 ((((all.getD (Int.toNat (at_+((4:Int)*i))) (ET.dft .u8)) % 4294967296)*16777216) % 4294967296) ((((all.getD (Int.toNat ((at_+((4:Int)*i))+(1:Int))) (ET.dft .u8)) % 4294967296)*65536) % 4294967296)) ((((all.getD (Int.toNat ((at_+((4:Int)*i))+(2:Int))) (ET.dft .u8)) % 4294967296)*256) % 4294967296)) ((all.getD (Int.toNat ((at_+((4:Int)*i))+(3:Int))) (ET.dft .u8)) % 4294967296))))))
  else (
   gd (qAc (i - (15:Int))) <|
   gd (0≤(i - (15:Int))∧(i - (15:Int))<((64:Nat):Int)) <|
   gd ((Int.toNat (i - (15:Int)))<64) <|
   gd (qAc (i - (2:Int))) <|
   gd (0≤(i - (2:Int))∧(i - (2:Int))<((64:Nat):Int)) <|
   gd ((Int.toNat (i - (2:Int)))<64) <|
   gd (qAc (i - (16:Int))) <|
   gd (0≤(i - (16:Int))∧(i - (16:Int))<((64:Nat):Int)) <|
   gd ((Int.toNat (i - (16:Int)))<64) <|
   gd (0≤(3:Int)) <|
   gd (qAc (i - (7:Int))) <|
   gd (0≤(i - (7:Int))∧(i - (7:Int))<((64:Nat):Int)) <|
   gd ((Int.toNat (i - (7:Int)))<64) <|
   gd (0≤(10:Int)) <|
   (qCp ((nrm 64 w_v).getD (Int.toNat (i - (15:Int))) 0) (7:Int)).bind fun r127 =>
   (qCp ((nrm 64 w_v).getD (Int.toNat (i - (15:Int))) 0) (18:Int)).bind fun r128 =>
   (qCp ((nrm 64 w_v).getD (Int.toNat (i - (2:Int))) 0) (17:Int)).bind fun r129 =>
   (qCp ((nrm 64 w_v).getD (Int.toNat (i - (2:Int))) 0) (19:Int)).bind fun r130 =>
   gd (0≤i∧i<((64:Nat):Int)) <|
   gd ((Int.toNat i)<64) <|
   gd (qAc (i+(1:Int))) <|
   some (.inl ((i+(1:Int)),((nrm 64 w_v).set (Int.toNat i) ((((((((nrm 64 w_v).getD (Int.toNat (i - (16:Int))) 0)+(qAj .u32 (qAj .u32 r127 r128) (((nrm 64 w_v).getD (Int.toNat (i - (15:Int))) 0) / 8))) % 4294967296)+((nrm 64 w_v).getD (Int.toNat (i - (7:Int))) 0)) % 4294967296)+(qAj .u32 (qAj .u32 r129 r130) (((nrm 64 w_v).getD (Int.toNat (i - (2:Int))) 0) / 1024))) % 4294967296))))))
 else (
  some (.inr w_v))
def zcl_p1 (at_ i:Int) (all w_v:List Int):Option ((List Int)) :=
 qAn (fun x:(Int × (List Int))=>qC4 at_ x.1 all x.2) (i,w_v)
def qC5 (i:Int) (w_v v_v:List Int):Option ((Int × (List Int)) ⊕ ((List Int))) :=
 bif decide (i<(64:Int)) then (
  gd (0≤i∧i<((64:Nat):Int)) <|
  gd (((0)+(Int.toNat i)*1)<shaK256.length) <|
  gd (0≤i∧i<((64:Nat):Int)) <|
  gd ((Int.toNat i)<64) <|
  (qCp (v_v.getD 4 0) (6:Int)).bind fun r132 =>
  (qCp (v_v.getD 4 0) (11:Int)).bind fun r133 =>
  (qCp (v_v.getD 4 0) (25:Int)).bind fun r134 =>
  (qCp (v_v.getD 0 0) (2:Int)).bind fun r135 =>
  (qCp (v_v.getD 0 0) (13:Int)).bind fun r136 =>
  (qCp (v_v.getD 0 0) (22:Int)).bind fun r137 =>
  gd (qAc (i+(1:Int))) <|
  some (.inl ((i+(1:Int)),[(((((((((((v_v.getD 7 0)+(qAj .u32 (qAj .u32 r132 r133) r134)) % 4294967296)+(qAj .u32 (qAg .u32 (v_v.getD 4 0) (v_v.getD 5 0)) (qAg .u32 (qAj .u32 (4294967295:Int) (v_v.getD 4 0)) (v_v.getD 6 0)))) % 4294967296)+(shaK256.getD ((0)+(Int.toNat i)*1) 0)) % 4294967296)+((nrm 64 w_v).getD (Int.toNat i) 0)) % 4294967296)+(((qAj .u32 (qAj .u32 r135 r136) r137)+(qAj .u32 (qAj .u32 (qAg .u32 (v_v.getD 0 0) (v_v.getD 1 0)) (qAg .u32 (v_v.getD 0 0) (v_v.getD 2 0))) (qAg .u32 (v_v.getD 1 0) (v_v.getD 2 0)))) % 4294967296)) % 4294967296),(v_v.getD 0 0),(v_v.getD 1 0),(v_v.getD 2 0),(((v_v.getD 3 0)+(((((((((v_v.getD 7 0)+(qAj .u32 (qAj .u32 r132 r133) r134)) % 4294967296)+(qAj .u32 (qAg .u32 (v_v.getD 4 0) (v_v.getD 5 0)) (qAg .u32 (qAj .u32 (4294967295:Int) (v_v.getD 4 0)) (v_v.getD 6 0)))) % 4294967296)+(shaK256.getD ((0)+(Int.toNat i)*1) 0)) % 4294967296)+((nrm 64 w_v).getD (Int.toNat i) 0)) % 4294967296)) % 4294967296),(v_v.getD 4 0),(v_v.getD 5 0),(v_v.getD 6 0)])))
 else (
  some (.inr v_v))
def zcl_p2 (i:Int) (w_v v_v:List Int):Option ((List Int)) :=
 qAn (fun x:(Int × (List Int))=>qC5 x.1 w_v x.2) (i,v_v)
def qFo (i:Int) (h_v v_v:List Int):Option ((Int × (List Int)) ⊕ ((List Int))) :=
 bif decide (i<(8:Int)) then (
  gd (0≤i∧i<((8:Nat):Int)) <|
  gd ((Int.toNat i)<8) <|
  gd (0≤i∧i<((8:Nat):Int)) <|
  gd ((Int.toNat i)<8) <|
  gd (0≤i∧i<((8:Nat):Int)) <|
  gd ((Int.toNat i)<8) <|
  gd (qAc (i+(1:Int))) <|
  some (.inl ((i+(1:Int)),((nrm 8 h_v).set (Int.toNat i) ((((nrm 8 h_v).getD (Int.toNat i) 0)+((nrm 8 v_v).getD (Int.toNat i) 0)) % 4294967296)))))
 else (
  some (.inr h_v))
def zcl_p3 (i:Int) (h_v v_v:List Int):Option ((List Int)) :=
 qAn (fun x:(Int × (List Int))=>qFo x.1 x.2 v_v) (i,h_v)
def qD9 (at_:Int) (h_v all:List Int):Option ((Int × (List Int)) ⊕ ((List Int))) :=
 bif decide (at_<(all.length:Int)) then (
  (zcl_p1 at_ (0:Int) all (nrm 64 ([]:List Int))).bind fun o131 =>
  (zcl_p2 (0:Int) (nrm 64 o131) (nrm 8 (nrm 8 h_v))).bind fun o138 =>
  (zcl_p3 (0:Int) (nrm 8 (nrm 8 (nrm 8 h_v))) (nrm 8 o138)).bind fun o139 =>
  gd (qAc (at_+(64:Int))) <|
  some (.inl ((at_+(64:Int)),o139)))
 else (
  some (.inr h_v))
def zcl_p0 (at_:Int) (h_v all:List Int):Option ((List Int)) :=
 qAn (fun x:(Int × (List Int))=>qD9 x.1 x.2 all) (at_,h_v)
def qFp (i:Int) (h_v out:List Int):Option ((Int × (List Int)) ⊕ ((List Int))) :=
 bif decide (i<(8:Int)) then (
  gd (0≤i∧i<((8:Nat):Int)) <|
  gd ((Int.toNat i)<8) <|
  gd (0≤(24:Int)) <|
  gd (0≤i∧i<((8:Nat):Int)) <|
  gd ((Int.toNat i)<8) <|
  gd (0≤(16:Int)) <|
  gd (0≤i∧i<((8:Nat):Int)) <|
  gd ((Int.toNat i)<8) <|
  gd (0≤(8:Int)) <|
  gd (0≤i∧i<((8:Nat):Int)) <|
  gd ((Int.toNat i)<8) <|
  gd (out.length+([((((nrm 8 h_v).getD (Int.toNat i) 0) / 16777216) % 256),((qAg .u32 (((nrm 8 h_v).getD (Int.toNat i) 0) / 65536) (255:Int)) % 256),((qAg .u32 (((nrm 8 h_v).getD (Int.toNat i) 0) / 256) (255:Int)) % 256),((qAg .u32 ((nrm 8 h_v).getD (Int.toNat i) 0) (255:Int)) % 256)]:List Int).length≤9223372036854775807∧(out.length+([((((nrm 8 h_v).getD (Int.toNat i) 0) / 16777216) % 256),((qAg .u32 (((nrm 8 h_v).getD (Int.toNat i) 0) / 65536) (255:Int)) % 256),((qAg .u32 (((nrm 8 h_v).getD (Int.toNat i) 0) / 256) (255:Int)) % 256),((qAg .u32 ((nrm 8 h_v).getD (Int.toNat i) 0) (255:Int)) % 256)]:List Int).length)*1≤140737488355328) <|
  gd (qAc (i+(1:Int))) <|
  some (.inl ((i+(1:Int)),(out++[((((nrm 8 h_v).getD (Int.toNat i) 0) / 16777216) % 256),((qAg .u32 (((nrm 8 h_v).getD (Int.toNat i) 0) / 65536) (255:Int)) % 256),((qAg .u32 (((nrm 8 h_v).getD (Int.toNat i) 0) / 256) (255:Int)) % 256),((qAg .u32 ((nrm 8 h_v).getD (Int.toNat i) 0) (255:Int)) % 256)]))))
 else (
  some (.inr out))
def zcl_p4 (i:Int) (h_v out:List Int):Option ((List Int)) :=
 qAn (fun x:(Int × (List Int))=>qFp x.1 h_v x.2) (i,out)
def zcl_s (b:(List Int)):Option ((List Int)) :=
 (zcj_s b (64:Int)).bind fun r126 =>
 (zcl_p0 (0:Int) (nrm 8 shaS256) r126).bind fun o140 =>
 (zcl_p4 (0:Int) (nrm 8 o140) []).bind fun o141 =>
 some o141
def zcl_G:Nat→Option CQ:=tblQ [(53,zcj_w),(54,zcm_w)]
def zcl_d1:=(dQS (qAa (dSO 3 (dH 1 0)) (qAa (dSO 4 (dO 2)) (qAa (dSO 5 dZ) (qAa (dSO 6 (dH 3 0)) (qAa (dSO 7 dZ) dNil))))) (qAa (qAt .u8) (qAa (qAy 83 (dSpr .u32 8 dNil)) (qAa (dRow .u8 5) (qAa (qAy 88 (dSpr .u32 64 dNil)) dNil)))))
def zcl_l1:SubQ:=mkL zcl_d1 (fun x=>zcl_p1 x.1.2.2.1 x.1.2.2.2.2.1 x.2.2.2.1 x.2.2.2.2.1.1) fun x r R kn kx kr=>kx 2 ⟨[sL 3 (.hd 1 0),sL 4 (.own 2),sL 5 (.vI x.1.2.2.1),sL 6 (.hd 3 0)],[],[.view .u8 x.2.1,.cells 83 (spr .u32 8 x.2.2.1.1),.row .u8 5 x.2.2.2.1,.cells 88 (spr .u32 64 r)]⟩
def zcl_d2:=(dQS (qAa (dSO 3 (dH 1 0)) (qAa (dSO 4 (dO 2)) (qAa (dSO 5 dZ) (qAa (dSO 6 (dH 3 0)) (qAa (dSO 11 (dH 4 0)) (qAa (dSO 12 dZ) dNil)))))) (qAa (qAt .u8) (qAa (qAy 83 (dSpr .u32 8 dNil)) (qAa (dRow .u8 5) (qAa (qAy 88 (dSpr .u32 64 dNil)) (qAa (qAy 83 (dSpr .u32 8 dNil)) dNil))))))
def zcl_l2:SubQ:=mkL zcl_d2 (fun x=>zcl_p2 x.1.2.2.2.2.2.1 x.2.2.2.2.1.1 x.2.2.2.2.2.1.1) fun x r R kn kx kr=>kx 4 ⟨[sL 3 (.hd 1 0),sL 4 (.own 2),sL 5 (.vI x.1.2.2.1),sL 11 (.hd 3 0)],[],[.view .u8 x.2.1,.cells 83 (spr .u32 8 x.2.2.1.1),.row .u8 5 x.2.2.2.1,.cells 83 (spr .u32 8 r)]⟩
def zcl_d3:=(dQS (qAa (dSO 3 (dH 1 0)) (qAa (dSO 4 (dO 2)) (qAa (dSO 5 dZ) (qAa (dSO 11 (dH 3 0)) (qAa (dSO 17 dZ) dNil))))) (qAa (qAt .u8) (qAa (qAy 83 (dSpr .u32 8 dNil)) (qAa (dRow .u8 5) (qAa (qAy 83 (dSpr .u32 8 dNil)) dNil)))))
def zcl_l3:SubQ:=mkL zcl_d3 (fun x=>zcl_p3 x.1.2.2.2.2.1 x.2.2.1.1 x.2.2.2.2.1.1) fun x r R kn kx kr=>kx 6 ⟨[sL 3 (.hd 1 0),sL 4 (.own 2),sL 5 (.vI x.1.2.2.1)],[],[.view .u8 x.2.1,.cells 83 (spr .u32 8 r),.row .u8 5 x.2.2.2.1]⟩
def zcl_d0:=(dQS (qAa (dSO 3 (dH 1 0)) (qAa (dSO 4 (dO 2)) (qAa (dSO 5 dZ) dNil))) (qAa (qAt .u8) (qAa (qAy 83 (dSpr .u32 8 dNil)) (qAa (dRow .u8 5) dNil))))
def zcl_l0:SubQ:=mkL zcl_d0 (fun x=>zcl_p0 x.1.2.2.1 x.2.2.1.1 x.2.2.2.1) fun x r R kn kx kr=>kx 0 ⟨[sL 3 (.hd 1 0)],[],[.view .u8 x.2.1,.cells 83 (spr .u32 8 r)]⟩
def zcl_d4:=(dQS (qAa (dSO 3 (dH 1 0)) (qAa (dSO 18 (dO 2)) (qAa (dSO 19 dZ) dNil))) (qAa (qAt .u8) (qAa (qAy 83 (dSpr .u32 8 dNil)) (qAa (dRow .u8 5) dNil))))
def zcl_l4:SubQ:=mkL zcl_d4 (fun x=>zcl_p4 x.1.2.2.1 x.2.2.1.1 x.2.2.2.1) fun x r R kn kx kr=>kx 8 ⟨[sL 18 (.own 1)],[],[.view .u8 x.2.1,.row .u8 5 r]⟩
def zcl_L:Nat→SubQ:=tblL [(1,zcl_l1),(2,zcl_l2),(3,zcl_l3),(0,zcl_l0),(4,zcl_l4)]
theorem zcl_sub1:qA2 zcl_L zcl_G 1 20 231 1 zcl_b1:=qAm (show zcl_L 1=zcl_l1 from by kernel_rfl) fun x R kn kx kr=>qAf (step:=fun y=>qC4 x.1.2.2.1 y.1 x.2.2.2.1 y.2) (enc:=fun (y:Int × (List Int))=>zcl_d1.e ((x.1.1,x.1.2.1,x.1.2.2.1,x.1.2.2.2.1,y.1,x.1.2.2.2.2.2),(x.2.1,x.2.2.1,x.2.2.2.1,(y.2,x.2.2.2.2.1.2),x.2.2.2.2.2))) (fun y=>by kernel_rfl) (fun y ki=>by simp only [qC4,-eq_self,sZ]; kernel_rfl) (x.1.2.2.2.2.1,x.2.2.2.2.1.1)
theorem zcl_sub2:qA2 zcl_L zcl_G 1 20 231 2 zcl_b2:=qAm (show zcl_L 2=zcl_l2 from by kernel_rfl) fun x R kn kx kr=>qAf (step:=fun y=>qC5 y.1 x.2.2.2.2.1.1 y.2) (enc:=fun (y:Int × (List Int))=>zcl_d2.e ((x.1.1,x.1.2.1,x.1.2.2.1,x.1.2.2.2.1,x.1.2.2.2.2.1,y.1,x.1.2.2.2.2.2.2),(x.2.1,x.2.2.1,x.2.2.2.1,x.2.2.2.2.1,(y.2,x.2.2.2.2.2.1.2),x.2.2.2.2.2.2))) (fun y=>by kernel_rfl) (fun y ki=>by simp only [qC5,-eq_self,sZ]; kernel_rfl) (x.1.2.2.2.2.2.1,x.2.2.2.2.2.1.1)
theorem zcl_sub3:qA2 zcl_L zcl_G 1 20 231 3 zcl_b3:=qAm (show zcl_L 3=zcl_l3 from by kernel_rfl) fun x R kn kx kr=>qAf (step:=fun y=>qFo y.1 y.2 x.2.2.2.2.1.1) (enc:=fun (y:Int × (List Int))=>zcl_d3.e ((x.1.1,x.1.2.1,x.1.2.2.1,x.1.2.2.2.1,y.1,x.1.2.2.2.2.2),(x.2.1,(y.2,x.2.2.1.2),x.2.2.2))) (fun y=>by kernel_rfl) (fun y ki=>by simp only [qFo,-eq_self,sZ]; kernel_rfl) (x.1.2.2.2.2.1,x.2.2.1.1)
theorem zcl_sub0:qA2 zcl_L zcl_G 1 20 231 0 zcl_b0:=qAm (show zcl_L 0=zcl_l0 from by kernel_rfl) fun x R kn kx kr=>qAf (step:=fun y=>qD9 y.1 y.2 x.2.2.2.1) (enc:=fun (y:Int × (List Int))=>zcl_d0.e ((x.1.1,x.1.2.1,y.1,x.1.2.2.2),(x.2.1,(y.2,x.2.2.1.2),x.2.2.2))) (fun y=>by kernel_rfl) (fun y ki=>by simp only [qD9,-eq_self,sZ]; kernel_rfl) (x.1.2.2.1,x.2.2.1.1)
theorem zcl_sub4:qA2 zcl_L zcl_G 1 20 231 4 zcl_b4:=qAm (show zcl_L 4=zcl_l4 from by kernel_rfl) fun x R kn kx kr=>qAf (step:=fun y=>qFp y.1 x.2.2.1.1 y.2) (enc:=fun (y:Int × (List Int))=>zcl_d4.e ((x.1.1,x.1.2.1,y.1,x.1.2.2.2),(x.2.1,x.2.2.1,y.2,x.2.2.2.2))) (fun y=>by kernel_rfl) (fun y ki=>by simp only [qFp,-eq_self,sZ]; kernel_rfl) (x.1.2.2.1,x.2.2.2.1)
def zcl_c:CS:=mkC (qAa (dVC (dCO (dO 0))) dNil) (qAa (qAt .u8) dNil) (fun x y=>zcl_s y.1) (fun x y r=>.c (.o (.own 1))) fun x y r=>[.view .u8 y.1,.row .u8 5 r]
theorem zcl_val:qAl Tryd.prog 38 zcl_c:=vl1 zcl_q [.tmp 2] 231 20 1 (show qA8 zcl_L zcl_G 1 20 231 [(0,zcl_b0),(1,zcl_b1),(2,zcl_b2),(3,zcl_b3),(4,zcl_b4)] from ⟨zcl_sub0,zcl_sub1,zcl_sub2,zcl_sub3,zcl_sub4,tV⟩) (qAs ⟨zcj_ok,zcm_ok,tV⟩) fun x y=>by
 simp only [zcl_s,-eq_self,sZ];kernel_rfl
def zcl_w:CQ:=qBk [(0,none,some (.u8,5))] (qDb [false] zcl_c)
theorem zcl_ok:qAi Tryd.prog 38 zcl_w:=qBd zcl_val
def zcn_q:IQ:=(.seq (rg 4 [oP 4 (.mv (.v (.int .u64 0)))]) (.seq (rg 4 [oM 5 t0,oM 6 t1,oP 7 (.conv false .u64 t6),oP 8 (.bi .shr t5 t7),oM 9 t0,oM 10 t1,oP 11 (.bi .sub (vI 64) t10),oP 12 (.conv false .u64 t11),oP 13 (.bi .shl t9 t12),oP 14 (.bi .or t8 t13),oM 4 t14]) (.cn [4] .ret)))
def qCq (x_ n:Int):Option Int :=
 gd (0≤(n % 18446744073709551616)) <|
 gd (qAc ((64:Int) - n)) <|
 gd (0≤(((64:Int) - n) % 18446744073709551616)) <|
 some (qBf .u64 (x_ / 2 ^ (min (Int.toNat (n % 18446744073709551616)) (IntKind.bits .u64))) ((x_*2 ^ (min (Int.toNat (((64:Int) - n) % 18446744073709551616)) (IntKind.bits .u64))) % 18446744073709551616))
def zcn_c:CS:=mkC (qAa (dVC (dCO (dI .u64))) (qAa (dVC (dCO dZ)) dNil)) dNil (fun x y=>qCq x.1 x.2.1) (fun x y r=>.c (.o (.val (.int .u64 r)))) fun x y r=>[]
theorem zcn_val:qAl Tryd.prog 55 zcn_c:=vl0 zcn_q [.tmp 4] 15 5 0 [] trivial fun x y=>by
 simp only [qCq,-eq_self,sZ];kernel_rfl
def zcn_w:CQ:=qBu [] zcn_c
theorem zcn_ok:qAi Tryd.prog 55 zcn_w:=qAw zcn_val
def zck_b0:IQ:=(.loop [3,5,6,7] (.seq (.seq (rg 44 [oM 43 t7,oP 44 (.bi .lss t43 (vI 128))]) (.cond t44 .skip (.cn [3,5,6] (.exit 0)))) (.seq (.block 1 (rg 6 [oM 47 t6,oP 48 (.bslice 5 1 1 [.int .u8 0] [(0,(vC 0))]),oP 49 (.append 5 1 1 [.int .u8 0] t47 t48),oM 6 t49])) (rg 7 [oM 45 t7,oP 46 (.bi .add t45 (vI 1)),oM 7 t46]))))
def zck_b4:IQ:=(.loop [3,5,8,9,10,11] (.seq (.seq (rg 70 [oM 69 t11,oP 70 (.bi .lss t69 (vI 8))]) (.cond t70 .skip (.cn [3,5,8,9,10] (.exit 6)))) (.seq (.block 7 (.reg 0 (some [0,1,2,3,4,5,6,7,8,9,10,11,12,13,14,15,16,17]) [oM 73 t10,oM 74 t10,oP 75 (.ext (.pidx 80 1) [t9,t74]),oP 76 (.load none t75),oP 77 (.bi .shl t76 (.v (.int .u64 8))),oM 78 t5,oM 79 t8,oM 80 t10,oP 81 (.bi .mul (vI 8) t80),oP 82 (.bi .add t79 t81),oM 83 t11,oP 84 (.bi .add t82 t83),oP 85 (.iaddr 1 t78 t84),oP 86 (.load none t85),oP 87 (.conv false .u64 t86),oP 88 (.bi .or t77 t87),oP 89 (.ext (.pidx 80 1) [t9,t73]),oN (.store 1 t89 t88)])) (rg 11 [oM 71 t11,oP 72 (.bi .add t71 (vI 1)),oM 11 t72]))))
def zck_b3:IQ:=(.loop [3,5,8,9,10] (.seq (.seq (rg 64 [oM 63 t10,oP 64 (.bi .lss t63 (vI 80))]) (.cond t64 .skip (.cn [3,5,8,9] (.exit 4)))) (.seq (.block 5 (.seq (.seq (rg 68 [oM 67 t10,oP 68 (.bi .lss t67 (vI 16))]) (.cond t68 (.seq (.seq (rg 11 [oP 11 (.mv (vI 0))]) (.block 6 (.cn [3,5,8,9,10,11] (.sub 4 zck_b4)))) (.exit 5)) .skip)) (.seq (rg 12 [oM 90 t10,oP 91 (.bi .sub t90 (vI 15)),oP 92 (.ext (.pidx 80 1) [t9,t91]),oP 93 (.load none t92),oM 12 t93]) (.seq (rg 13 [oM 94 t10,oP 95 (.bi .sub t94 (vI 2)),oP 96 (.ext (.pidx 80 1) [t9,t95]),oP 97 (.load none t96),oM 13 t97]) (.reg 0 (some [0,1,2,3,4,5,7,10,11,14,15,16,17,19,21,24,25,6,8,9,12,13,18,20,22,23,26,27,28,29]) [oM 98 t10,oM 99 t10,oP 100 (.bi .sub t99 (vI 16)),oP 101 (.ext (.pidx 80 1) [t9,t100]),oP 102 (.load none t101),oM 103 t12,oM 105 t12,oM 108 t12,oP 109 (.bi .shr t108 (.v (.int .u64 7))),oM 112 t10,oP 113 (.bi .sub t112 (vI 7)),oP 114 (.ext (.pidx 80 1) [t9,t113]),oP 115 (.load none t114),oM 117 t13,oM 119 t13,oM 122 t13,oP 123 (.bi .shr t122 (.v (.int .u64 6))),oP 104 (.call 55 [t103,(vI 1)]),oP 106 (.call 55 [t105,(vI 8)]),oP 107 (.bi .xor t104 t106),oP 110 (.bi .xor t107 t109),oP 111 (.bi .add t102 t110),oP 116 (.bi .add t111 t115),oP 118 (.call 55 [t117,(vI 19)]),oP 120 (.call 55 [t119,(vI 61)]),oP 121 (.bi .xor t118 t120),oP 124 (.bi .xor t121 t123),oP 125 (.bi .add t116 t124),oP 126 (.ext (.pidx 80 1) [t9,t98]),oN (.store 1 t126 t125)]))))) (rg 10 [oM 65 t10,oP 66 (.bi .add t65 (vI 1)),oM 10 t66]))))
def zck_b5:IQ:=(.loop [3,5,8,9,14,15] (.seq (.seq (rg 129 [oM 128 t15,oP 129 (.bi .lss t128 (vI 80))]) (.cond t129 .skip (.cn [3,5,8,14] (.exit 8)))) (.seq (.block 9 (.seq (rg 16 [oP 132 (.faddr 0 t14),oP 133 (.load none t132),oM 16 t133]) (.seq (rg 17 [oP 134 (.faddr 4 t14),oP 135 (.load none t134),oM 17 t135]) (.seq (.reg 18 (some [0,1,2,4,7,11,12,13,14,15,16,17,18,19,20,22,23,24,26,27,28,3,5,6,8,9,10,21,25,29,30]) [oP 136 (.faddr 7 t14),oP 137 (.load none t136),oM 138 t17,oM 140 t17,oM 143 t17,oM 147 t17,oP 148 (.faddr 5 t14),oP 149 (.load none t148),oP 150 (.bi .and t147 t149),oM 151 t17,oP 152 (.un .xor t151),oP 153 (.faddr 6 t14),oP 154 (.load none t153),oP 155 (.bi .and t152 t154),oP 156 (.bi .xor t150 t155),oM 158 t15,oP 159 (.ext (.pidx 80 1) [(.v (.pointer (some ⟨7,0,none⟩))),t158]),oP 160 (.load none t159),oM 162 t15,oP 163 (.ext (.pidx 80 1) [t9,t162]),oP 164 (.load none t163),oP 139 (.call 55 [t138,(vI 14)]),oP 141 (.call 55 [t140,(vI 18)]),oP 142 (.bi .xor t139 t141),oP 144 (.call 55 [t143,(vI 41)]),oP 145 (.bi .xor t142 t144),oP 146 (.bi .add t137 t145),oP 157 (.bi .add t146 t156),oP 161 (.bi .add t157 t160),oP 165 (.bi .add t161 t164),oM 18 t165]) (.seq (.reg 19 (some [0,2,5,8,9,10,11,12,13,14,15,16,17,18,19,20,21,22,1,3,4,6,7,23,24]) [oM 166 t16,oM 168 t16,oM 171 t16,oM 174 t16,oP 175 (.faddr 1 t14),oP 176 (.load none t175),oP 177 (.bi .and t174 t176),oM 178 t16,oP 179 (.faddr 2 t14),oP 180 (.load none t179),oP 181 (.bi .and t178 t180),oP 182 (.bi .xor t177 t181),oP 183 (.faddr 1 t14),oP 184 (.load none t183),oP 185 (.faddr 2 t14),oP 186 (.load none t185),oP 187 (.bi .and t184 t186),oP 188 (.bi .xor t182 t187),oP 167 (.call 55 [t166,(vI 28)]),oP 169 (.call 55 [t168,(vI 34)]),oP 170 (.bi .xor t167 t169),oP 172 (.call 55 [t171,(vI 39)]),oP 173 (.bi .xor t170 t172),oP 189 (.bi .add t173 t188),oM 19 t189]) (rg 0 [oM 190 t18,oM 191 t19,oP 192 (.bi .add t190 t191),oM 193 t16,oP 194 (.faddr 1 t14),oP 195 (.load none t194),oP 196 (.faddr 2 t14),oP 197 (.load none t196),oP 198 (.faddr 3 t14),oP 199 (.load none t198),oM 200 t18,oP 201 (.bi .add t199 t200),oM 202 t17,oP 203 (.faddr 5 t14),oP 204 (.load none t203),oP 205 (.faddr 6 t14),oP 206 (.load none t205),oP 207 (.build [.int .u64 0,.int .u64 0,.int .u64 0,.int .u64 0,.int .u64 0,.int .u64 0,.int .u64 0,.int .u64 0] [(0,1,t192),(1,1,t193),(2,1,t195),(3,1,t197),(4,1,t201),(5,1,t202),(6,1,t204),(7,1,t206)]),oN (.store 8 t14 t207)])))))) (rg 15 [oM 130 t15,oP 131 (.bi .add t130 (vI 1)),oM 15 t131]))))
def zck_b6:IQ:=(.loop [3,5,8,14,20] (.seq (.seq (rg 209 [oM 208 t20,oP 209 (.bi .lss t208 (vI 8))]) (.cond t209 .skip (.cn [3,5,8] (.exit 10)))) (.seq (.block 11 (.reg 0 (some [0,1,2,3,4,5,6,7,8,9]) [oM 212 t20,oM 213 t20,oP 214 (.ext (.pidx 8 1) [t3,t213]),oP 215 (.load none t214),oM 216 t20,oP 217 (.ext (.pidx 8 1) [t14,t216]),oP 218 (.load none t217),oP 219 (.bi .add t215 t218),oP 220 (.ext (.pidx 8 1) [t3,t212]),oN (.store 1 t220 t219)])) (rg 20 [oM 210 t20,oP 211 (.bi .add t210 (vI 1)),oM 20 t211]))))
def zck_b2:IQ:=(.loop [3,5,8] (.seq (.seq (rg 60 [oM 57 t8,oM 58 t5,oP 59 (.len t58),oP 60 (.bi .lss t57 t59)]) (.cond t60 .skip (.cn [3] (.exit 2)))) (.seq (.block 3 (.seq (rg 9 [oP 9 (.alloc 90 (List.replicate 80 (.int .u64 0)))]) (.seq (.seq (rg 10 [oP 10 (.mv (vI 0))]) (.block 4 (.cn [3,5,8,9,10] (.sub 3 zck_b3)))) (.seq (rg 0 [oP 127 (.load (some 8) t3),oP 14 (.alloc 72 [.int .u64 0,.int .u64 0,.int .u64 0,.int .u64 0,.int .u64 0,.int .u64 0,.int .u64 0,.int .u64 0]),oN (.store 8 t14 t127)]) (.seq (.seq (rg 15 [oP 15 (.mv (vI 0))]) (.block 8 (.cn [3,5,8,9,14,15] (.sub 5 zck_b5)))) (.seq (rg 20 [oP 20 (.mv (vI 0))]) (.block 10 (.cn [3,5,8,14,20] (.sub 6 zck_b6))))))))) (rg 8 [oM 61 t8,oP 62 (.bi .add t61 (vI 128)),oM 8 t62]))))
def zck_b8:IQ:=(.loop [3,21,22,23] (.seq (.seq (rg 226 [oM 225 t23,oP 226 (.bi .geq t225 (vI 0))]) (.cond t226 .skip (.cn [3,21,22] (.exit 14)))) (.seq (.block 15 (rg 21 [oM 229 t21,oM 230 t22,oP 231 (.ext (.pidx 8 1) [t3,t230]),oP 232 (.load none t231),oM 233 t23,oP 234 (.bi .mul (vI 8) t233),oP 235 (.conv false .u64 t234),oP 236 (.bi .shr t232 t235),oP 237 (.bi .and t236 (.v (.int .u64 255))),oP 238 (.conv false .u8 t237),oP 239 (.bslice 5 1 1 [.int .u8 0] [(0,t238)]),oP 240 (.append 5 1 1 [.int .u8 0] t229 t239),oM 21 t240])) (rg 23 [oM 227 t23,oP 228 (.bi .sub t227 (vI 1)),oM 23 t228]))))
def zck_b7:IQ:=(.loop [3,21,22] (.seq (.seq (rg 222 [oM 221 t22,oP 222 (.bi .lss t221 (vI 8))]) (.cond t222 .skip (.cn [21] (.exit 12)))) (.seq (.block 13 (.seq (rg 23 [oP 23 (.mv (vI 7))]) (.block 14 (.canon [(21,none,.u8,5)] [3,21,22,23] (.sub 8 zck_b8))))) (rg 22 [oM 223 t22,oP 224 (.bi .add t223 (vI 1)),oM 22 t224]))))
def zck_b1:IQ:=(.seq (.seq (rg 8 [oP 8 (.mv (vI 0))]) (.block 2 (.cn [3,5,8] (.sub 2 zck_b2)))) (.seq (rg 21 [oP 21 (.mv (.v (.slice none 0 0)))]) (.seq (.seq (rg 22 [oP 22 (.mv (vI 0))]) (.block 12 (.canon [(21,none,.u8,5)] [3,21,22] (.sub 7 zck_b7)))) (.seq (rg 4 [oM 241 t21,oM 4 t241]) (.canon [(4,none,.u8,5)] [4] .ret)))))
def zck_q:IQ:=(.seq (rg 4 [oP 3 (.box 72 8 t1),oP 4 (.mv (.v (.slice none 0 0)))]) (.seq (rg 5 [oM 24 t0,oP 25 (.call 53 [t24,(vI 128)]),oM 5 t25]) (.seq (.seq (rg 35 [oM 26 t0,oP 27 (.len t26),oP 28 (.bi .rem t27 (vI 128)),oP 29 (.bi .geq t28 (vI 112)),oM 30 t29,oF 31 (.mv t0) 30,oF 32 (.len t31) 30,oF 33 (.bi .rem t32 (vI 128)) 30,oF 34 (.bi .lss t33 (vI 120)) 30,oP 35 (.pick t30 t34 vF)]) (.cond t35 (.seq (rg 6 [oP 6 (.mv (.v (.slice none 0 0)))]) (.seq (rg 6 [oM 36 t6,oM 37 t5,oM 38 t5,oP 39 (.len t38),oP 40 (.bi .sub t39 (vI 8)),oP 41 (.sub (some 1) t37 (some (vI 0)) (some t40)),oP 42 (.append 5 1 1 [.int .u8 0] t36 t41),oM 6 t42]) (.seq (.seq (rg 7 [oP 7 (.mv (vI 0))]) (.block 0 (.cn [3,5,6,7] (.sub 0 zck_b0)))) (rg 5 [oM 50 t6,oM 51 t5,oM 52 t5,oP 53 (.len t52),oP 54 (.bi .sub t53 (vI 8)),oP 55 (.sub (some 1) t51 (some t54) none),oP 56 (.append 5 1 1 [.int .u8 0] t50 t55),oM 5 t56])))) .skip)) (.cn [3,5] (.sub 1 zck_b1)))))
def qD6 (i:Int) (more:List Int):Option ((Int × (List Int)) ⊕ ((List Int))) :=
 bif decide (i<(128:Int)) then (
  gd (more.length+([(0:Int)]:List Int).length≤9223372036854775807∧(more.length+([(0:Int)]:List Int).length)*1≤140737488355328) <|
  gd (qAc (i+(1:Int))) <|
  some (.inl ((i+(1:Int)),(more++[(0:Int)]))))
 else (
  some (.inr more))
def zck_p0 (i:Int) (more:List Int):Option ((List Int)) :=
 qAn (fun x:(Int × (List Int))=>qD6 x.1 x.2) (i,more)
def qFm (at_ i k_:Int) (all w_v:List Int):Option ((Int × (List Int)) ⊕ ((List Int))) :=
 bif decide (k_<(8:Int)) then (
  gd (0≤i∧i<((80:Nat):Int)) <|
  gd ((Int.toNat i)<80) <|
  gd (0≤(8:Int)) <|
  gd (qAc ((8:Int)*i)) <|
  gd (qAc (at_+((8:Int)*i))) <|
  gd (qAc ((at_+((8:Int)*i))+k_)) <|
  gd (0≤((at_+((8:Int)*i))+k_)∧((at_+((8:Int)*i))+k_)<all.length) <|
  gd ((Int.toNat ((at_+((8:Int)*i))+k_))<all.length) <|
  gd (0≤i∧i<((80:Nat):Int)) <|
  gd ((Int.toNat i)<80) <|
  gd (qAc (k_+(1:Int))) <|
  some (.inl ((k_+(1:Int)),((nrm 80 w_v).set (Int.toNat i) (qBf .u64 ((((nrm 80 w_v).getD (Int.toNat i) 0)*256) % 18446744073709551616) ((all.getD (Int.toNat ((at_+((8:Int)*i))+k_)) (ET.dft .u8)) % 18446744073709551616))))))
 else (
  some (.inr w_v))
def zck_p4 (at_ i k_:Int) (all w_v:List Int):Option ((List Int)) :=
 qAn (fun x:(Int × (List Int))=>qFm at_ i x.1 all x.2) (k_,w_v)
def qBl (at_ i:Int) (h_v all w_v:List Int):Option ((Int × (List Int) × (List Int)) ⊕ ((List Int) × (List Int))) :=
 bif decide (i<(80:Int)) then (
  bif decide (i<(16:Int)) then (
   (zck_p4 at_ i (0:Int) all (nrm 80 w_v)).bind fun o231 =>
   gd (qAc (i+(1:Int))) <|
   some (.inl ((i+(1:Int)),(nrm 8 h_v),o231)))
  else (
   gd (qAc (i - (15:Int))) <|
   gd (0≤(i - (15:Int))∧(i - (15:Int))<((80:Nat):Int)) <|
   gd ((Int.toNat (i - (15:Int)))<80) <|
   gd (qAc (i - (2:Int))) <|
   gd (0≤(i - (2:Int))∧(i - (2:Int))<((80:Nat):Int)) <|
   gd ((Int.toNat (i - (2:Int)))<80) <|
   gd (qAc (i - (16:Int))) <|
   gd (0≤(i - (16:Int))∧(i - (16:Int))<((80:Nat):Int)) <|
   gd ((Int.toNat (i - (16:Int)))<80) <|
   gd (0≤(7:Int)) <|
   gd (qAc (i - (7:Int))) <|
   gd (0≤(i - (7:Int))∧(i - (7:Int))<((80:Nat):Int)) <|
   gd ((Int.toNat (i - (7:Int)))<80) <|
   gd (0≤(6:Int)) <|
   (qCq ((nrm 80 w_v).getD (Int.toNat (i - (15:Int))) 0) (1:Int)).bind fun r232 =>
   (qCq ((nrm 80 w_v).getD (Int.toNat (i - (15:Int))) 0) (8:Int)).bind fun r233 =>
   (qCq ((nrm 80 w_v).getD (Int.toNat (i - (2:Int))) 0) (19:Int)).bind fun r234 =>
   (qCq ((nrm 80 w_v).getD (Int.toNat (i - (2:Int))) 0) (61:Int)).bind fun r235 =>
   gd (0≤i∧i<((80:Nat):Int)) <|
   gd ((Int.toNat i)<80) <|
   gd (qAc (i+(1:Int))) <|
   some (.inl ((i+(1:Int)),h_v,((nrm 80 w_v).set (Int.toNat i) ((((((((nrm 80 w_v).getD (Int.toNat (i - (16:Int))) 0)+(qAj .u64 (qAj .u64 r232 r233) (((nrm 80 w_v).getD (Int.toNat (i - (15:Int))) 0) / 128))) % 18446744073709551616)+((nrm 80 w_v).getD (Int.toNat (i - (7:Int))) 0)) % 18446744073709551616)+(qAj .u64 (qAj .u64 r234 r235) (((nrm 80 w_v).getD (Int.toNat (i - (2:Int))) 0) / 64))) % 18446744073709551616))))))
 else (
  some (.inr (h_v,w_v)))
def zck_p3 (at_ i:Int) (h_v all w_v:List Int):Option ((List Int) × (List Int)) :=
 qAn (fun x:(Int × (List Int) × (List Int))=>qBl at_ x.1 x.2.1 all x.2.2) (i,h_v,w_v)
def qC2 (i:Int) (w_v v_v:List Int):Option ((Int × (List Int)) ⊕ ((List Int))) :=
 bif decide (i<(80:Int)) then (
  gd (0≤i∧i<((80:Nat):Int)) <|
  gd (((0)+(Int.toNat i)*1)<shaK512.length) <|
  gd (0≤i∧i<((80:Nat):Int)) <|
  gd ((Int.toNat i)<80) <|
  (qCq (v_v.getD 4 0) (14:Int)).bind fun r237 =>
  (qCq (v_v.getD 4 0) (18:Int)).bind fun r238 =>
  (qCq (v_v.getD 4 0) (41:Int)).bind fun r239 =>
  (qCq (v_v.getD 0 0) (28:Int)).bind fun r240 =>
  (qCq (v_v.getD 0 0) (34:Int)).bind fun r241 =>
  (qCq (v_v.getD 0 0) (39:Int)).bind fun r242 =>
  gd (qAc (i+(1:Int))) <|
  some (.inl ((i+(1:Int)),[(((((((((((v_v.getD 7 0)+(qAj .u64 (qAj .u64 r237 r238) r239)) % 18446744073709551616)+(qAj .u64 (qAg .u64 (v_v.getD 4 0) (v_v.getD 5 0)) (qAg .u64 (qAj .u64 (18446744073709551615:Int) (v_v.getD 4 0)) (v_v.getD 6 0)))) % 18446744073709551616)+(shaK512.getD ((0)+(Int.toNat i)*1) 0)) % 18446744073709551616)+((nrm 80 w_v).getD (Int.toNat i) 0)) % 18446744073709551616)+(((qAj .u64 (qAj .u64 r240 r241) r242)+(qAj .u64 (qAj .u64 (qAg .u64 (v_v.getD 0 0) (v_v.getD 1 0)) (qAg .u64 (v_v.getD 0 0) (v_v.getD 2 0))) (qAg .u64 (v_v.getD 1 0) (v_v.getD 2 0)))) % 18446744073709551616)) % 18446744073709551616),(v_v.getD 0 0),(v_v.getD 1 0),(v_v.getD 2 0),(((v_v.getD 3 0)+(((((((((v_v.getD 7 0)+(qAj .u64 (qAj .u64 r237 r238) r239)) % 18446744073709551616)+(qAj .u64 (qAg .u64 (v_v.getD 4 0) (v_v.getD 5 0)) (qAg .u64 (qAj .u64 (18446744073709551615:Int) (v_v.getD 4 0)) (v_v.getD 6 0)))) % 18446744073709551616)+(shaK512.getD ((0)+(Int.toNat i)*1) 0)) % 18446744073709551616)+((nrm 80 w_v).getD (Int.toNat i) 0)) % 18446744073709551616)) % 18446744073709551616),(v_v.getD 4 0),(v_v.getD 5 0),(v_v.getD 6 0)])))
 else (
  some (.inr v_v))
def zck_p5 (i:Int) (w_v v_v:List Int):Option ((List Int)) :=
 qAn (fun x:(Int × (List Int))=>qC2 x.1 w_v x.2) (i,v_v)
def qFn (i:Int) (h_v v_v:List Int):Option ((Int × (List Int)) ⊕ ((List Int))) :=
 bif decide (i<(8:Int)) then (
  gd (0≤i∧i<((8:Nat):Int)) <|
  gd ((Int.toNat i)<8) <|
  gd (0≤i∧i<((8:Nat):Int)) <|
  gd ((Int.toNat i)<8) <|
  gd (0≤i∧i<((8:Nat):Int)) <|
  gd ((Int.toNat i)<8) <|
  gd (qAc (i+(1:Int))) <|
  some (.inl ((i+(1:Int)),((nrm 8 h_v).set (Int.toNat i) ((((nrm 8 h_v).getD (Int.toNat i) 0)+((nrm 8 v_v).getD (Int.toNat i) 0)) % 18446744073709551616)))))
 else (
  some (.inr h_v))
def zck_p6 (i:Int) (h_v v_v:List Int):Option ((List Int)) :=
 qAn (fun x:(Int × (List Int))=>qFn x.1 x.2 v_v) (i,h_v)
def qD7 (at_:Int) (h_v all:List Int):Option ((Int × (List Int)) ⊕ ((List Int))) :=
 bif decide (at_<(all.length:Int)) then (
  (zck_p3 at_ (0:Int) (nrm 8 h_v) all (nrm 80 ([]:List Int))).bind fun o236 =>
  (zck_p5 (0:Int) (nrm 80 o236.2) (nrm 8 o236.1)).bind fun o243 =>
  (zck_p6 (0:Int) (nrm 8 (nrm 8 o236.1)) (nrm 8 o243)).bind fun o244 =>
  gd (qAc (at_+(128:Int))) <|
  some (.inl ((at_+(128:Int)),o244)))
 else (
  some (.inr h_v))
def zck_p2 (at_:Int) (h_v all:List Int):Option ((List Int)) :=
 qAn (fun x:(Int × (List Int))=>qD7 x.1 x.2 all) (at_,h_v)
def qD8 (i k_:Int) (h_v out:List Int):Option ((Int × (List Int)) ⊕ ((List Int))) :=
 bif decide ((0:Int)≤k_) then (
  gd (0≤i∧i<((8:Nat):Int)) <|
  gd ((Int.toNat i)<8) <|
  gd (qAc ((8:Int)*k_)) <|
  gd (0≤(((8:Int)*k_) % 18446744073709551616)) <|
  gd (out.length+([((qAg .u64 (((nrm 8 h_v).getD (Int.toNat i) 0) / 2 ^ (min (Int.toNat (((8:Int)*k_) % 18446744073709551616)) (IntKind.bits .u64))) (255:Int)) % 256)]:List Int).length≤9223372036854775807∧(out.length+([((qAg .u64 (((nrm 8 h_v).getD (Int.toNat i) 0) / 2 ^ (min (Int.toNat (((8:Int)*k_) % 18446744073709551616)) (IntKind.bits .u64))) (255:Int)) % 256)]:List Int).length)*1≤140737488355328) <|
  gd (qAc (k_ - (1:Int))) <|
  some (.inl ((k_ - (1:Int)),(out++[((qAg .u64 (((nrm 8 h_v).getD (Int.toNat i) 0) / 2 ^ (min (Int.toNat (((8:Int)*k_) % 18446744073709551616)) (IntKind.bits .u64))) (255:Int)) % 256)]))))
 else (
  some (.inr out))
def zck_p8 (i k_:Int) (h_v out:List Int):Option ((List Int)) :=
 qAn (fun x:(Int × (List Int))=>qD8 i x.1 h_v x.2) (k_,out)
def qC3 (i:Int) (h_v out:List Int):Option ((Int × (List Int) × (List Int)) ⊕ ((List Int))) :=
 bif decide (i<(8:Int)) then (
  (zck_p8 i (7:Int) (nrm 8 h_v) out).bind fun o246 =>
  gd (qAc (i+(1:Int))) <|
  some (.inl ((i+(1:Int)),(nrm 8 h_v),o246)))
 else (
  some (.inr out))
def zck_p7 (i:Int) (h_v out:List Int):Option ((List Int)) :=
 qAn (fun x:(Int × (List Int) × (List Int))=>qC3 x.1 x.2.1 x.2.2) (i,h_v,out)
def zck_p1 (h_v all:List Int):Option ((List Int)) :=
 (zck_p2 (0:Int) (nrm 8 h_v) all).bind fun o245 =>
 (zck_p7 (0:Int) (nrm 8 o245) []).bind fun o247 =>
 some o247
def zck_s (b h:(List Int)):Option ((List Int)) :=
 (zcj_s b (128:Int)).bind fun r229 =>
 gd (0≤(b.length:Int)∧1≤(128:Int)) <|
 gd ((decide ((112:Int)≤((b.length:Int) % (128:Int))))=true→0≤(b.length:Int)∧1≤(128:Int)) <|
 bif ((decide ((112:Int)≤((b.length:Int) % (128:Int)))) && (decide (((b.length:Int) % (128:Int))<(120:Int)))) then (
  gd (qAc ((r229.length:Int) - (8:Int))) <|
  gd (0≤(0:Int)∧(0:Int)≤((r229.length:Int) - (8:Int))∧((r229.length:Int) - (8:Int))≤r229.length) <|
  gd ((0)+(Int.toNat ((r229.length:Int) - (8:Int)))≤r229.length) <|
  gd (((r229.drop (0)).take (Int.toNat ((r229.length:Int) - (8:Int)))).length≤9223372036854775807∧((r229.drop (0)).take (Int.toNat ((r229.length:Int) - (8:Int)))).length*1≤140737488355328) <|
  (zck_p0 (0:Int) ((r229.drop (0)).take (Int.toNat ((r229.length:Int) - (8:Int))))).bind fun o230 =>
  gd (qAc ((r229.length:Int) - (8:Int))) <|
  gd (0≤((r229.length:Int) - (8:Int))∧((r229.length:Int) - (8:Int))≤(r229.length:Int)∧(r229.length:Int)≤r229.length) <|
  gd ((Int.toNat ((r229.length:Int) - (8:Int)))+(r229.length - (Int.toNat ((r229.length:Int) - (8:Int))))≤r229.length) <|
  gd (o230.length+((r229.drop (Int.toNat ((r229.length:Int) - (8:Int)))).take (r229.length - (Int.toNat ((r229.length:Int) - (8:Int))))).length≤9223372036854775807∧(o230.length+((r229.drop (Int.toNat ((r229.length:Int) - (8:Int)))).take (r229.length - (Int.toNat ((r229.length:Int) - (8:Int))))).length)*1≤140737488355328) <|
  (zck_p1 (nrm 8 (nrm 8 h)) (o230++((r229.drop (Int.toNat ((r229.length:Int) - (8:Int)))).take (r229.length - (Int.toNat ((r229.length:Int) - (8:Int))))))).bind fun o248 =>
  some o248)
 else (
  (zck_p1 (nrm 8 h) r229).bind fun o249 =>
  some o249)
def zck_G:Nat→Option CQ:=tblQ [(53,zcj_w),(55,zcn_w)]
def zck_d0:=(dQS (qAa (dSO 3 (dH 1 0)) (qAa (dSO 5 (dO 2)) (qAa (dSO 6 (dO 3)) (qAa (dSO 7 dZ) dNil)))) (qAa (qAt .u8) (qAa (qAy 72 (dSpr .u64 8 dNil)) (qAa (dRow .u8 5) (qAa (dRow .u8 5) dNil)))))
def zck_l0:SubQ:=mkL zck_d0 (fun x=>zck_p0 x.1.2.2.2.1 x.2.2.2.2.1) fun x r R kn kx kr=>kx 0 ⟨[sL 3 (.hd 1 0),sL 5 (.own 2),sL 6 (.own 3)],[],[.view .u8 x.2.1,.cells 72 (spr .u64 8 x.2.2.1.1),.row .u8 5 x.2.2.2.1,.row .u8 5 r]⟩
def zDHR3:=(qAy 90 (dSpr .u64 80 dNil))
def zck_d4:=(dQS (qAa (dSO 3 (dH 1 0)) (qAa (dSO 5 (dO 2)) (qAa (dSO 8 dZ) (qAa (dSO 9 (dH 3 0)) (qAa (dSO 10 dZ) (qAa (dSO 11 dZ) dNil)))))) (qAa (qAt .u8) (qAa (qAy 72 (dSpr .u64 8 dNil)) (qAa (dRow .u8 5) (qAa zDHR3 dNil)))))
def zck_l4:SubQ:=mkL zck_d4 (fun x=>zck_p4 x.1.2.2.1 x.1.2.2.2.2.1 x.1.2.2.2.2.2.1 x.2.2.2.1 x.2.2.2.2.1.1) fun x r R kn kx kr=>kx 6 ⟨[sL 3 (.hd 1 0),sL 5 (.own 2),sL 8 (.vI x.1.2.2.1),sL 9 (.hd 3 0),sL 10 (.vI x.1.2.2.2.2.1)],[],[.view .u8 x.2.1,.cells 72 (spr .u64 8 x.2.2.1.1),.row .u8 5 x.2.2.2.1,.cells 90 (spr .u64 80 r)]⟩
def zck_d3:=(dQS (qAa (dSO 3 (dH 1 0)) (qAa (dSO 5 (dO 2)) (qAa (dSO 8 dZ) (qAa (dSO 9 (dH 3 0)) (qAa (dSO 10 dZ) dNil))))) (qAa (qAt .u8) (qAa (qAy 72 (dSpr .u64 8 dNil)) (qAa (dRow .u8 5) (qAa zDHR3 dNil)))))
def zck_l3:SubQ:=mkL zck_d3 (fun x=>zck_p3 x.1.2.2.1 x.1.2.2.2.2.1 x.2.2.1.1 x.2.2.2.1 x.2.2.2.2.1.1) fun x r R kn kx kr=>kx 4 ⟨[sL 3 (.hd 1 0),sL 5 (.own 2),sL 8 (.vI x.1.2.2.1),sL 9 (.hd 3 0)],[],[.view .u8 x.2.1,.cells 72 (spr .u64 8 r.1),.row .u8 5 x.2.2.2.1,.cells 90 (spr .u64 80 r.2)]⟩
def zck_d5:=(dQS (qAa (dSO 3 (dH 1 0)) (qAa (dSO 5 (dO 2)) (qAa (dSO 8 dZ) (qAa (dSO 9 (dH 3 0)) (qAa (dSO 14 (dH 4 0)) (qAa (dSO 15 dZ) dNil)))))) (qAa (qAt .u8) (qAa (qAy 72 (dSpr .u64 8 dNil)) (qAa (dRow .u8 5) (qAa zDHR3 (qAa (qAy 72 (dSpr .u64 8 dNil)) dNil))))))
def zck_l5:SubQ:=mkL zck_d5 (fun x=>zck_p5 x.1.2.2.2.2.2.1 x.2.2.2.2.1.1 x.2.2.2.2.2.1.1) fun x r R kn kx kr=>kx 8 ⟨[sL 3 (.hd 1 0),sL 5 (.own 2),sL 8 (.vI x.1.2.2.1),sL 14 (.hd 3 0)],[],[.view .u8 x.2.1,.cells 72 (spr .u64 8 x.2.2.1.1),.row .u8 5 x.2.2.2.1,.cells 72 (spr .u64 8 r)]⟩
def zck_d6:=(dQS (qAa (dSO 3 (dH 1 0)) (qAa (dSO 5 (dO 2)) (qAa (dSO 8 dZ) (qAa (dSO 14 (dH 3 0)) (qAa (dSO 20 dZ) dNil))))) (qAa (qAt .u8) (qAa (qAy 72 (dSpr .u64 8 dNil)) (qAa (dRow .u8 5) (qAa (qAy 72 (dSpr .u64 8 dNil)) dNil)))))
def zck_l6:SubQ:=mkL zck_d6 (fun x=>zck_p6 x.1.2.2.2.2.1 x.2.2.1.1 x.2.2.2.2.1.1) fun x r R kn kx kr=>kx 10 ⟨[sL 3 (.hd 1 0),sL 5 (.own 2),sL 8 (.vI x.1.2.2.1)],[],[.view .u8 x.2.1,.cells 72 (spr .u64 8 r),.row .u8 5 x.2.2.2.1]⟩
def zDHR1:=(qAa (qAt .u8) (qAa (qAy 72 (dSpr .u64 8 dNil)) (qAa (dRow .u8 5) dNil)))
def zck_d2:=(dQS (qAa (dSO 3 (dH 1 0)) (qAa (dSO 5 (dO 2)) (qAa (dSO 8 dZ) dNil))) zDHR1)
def zck_l2:SubQ:=mkL zck_d2 (fun x=>zck_p2 x.1.2.2.1 x.2.2.1.1 x.2.2.2.1) fun x r R kn kx kr=>kx 2 ⟨[sL 3 (.hd 1 0)],[],[.view .u8 x.2.1,.cells 72 (spr .u64 8 r)]⟩
def zck_d8:=(dQS (qAa (dSO 3 (dH 1 0)) (qAa (dSO 21 (dO 2)) (qAa (dSO 22 dZ) (qAa (dSO 23 dZ) dNil)))) zDHR1)
def zck_l8:SubQ:=mkL zck_d8 (fun x=>zck_p8 x.1.2.2.1 x.1.2.2.2.1 x.2.2.1.1 x.2.2.2.1) fun x r R kn kx kr=>kx 14 ⟨[sL 3 (.hd 1 0),sL 21 (.own 2),sL 22 (.vI x.1.2.2.1)],[],[.view .u8 x.2.1,.cells 72 (spr .u64 8 x.2.2.1.1),.row .u8 5 r]⟩
def zck_d7:=(dQS (qAa (dSO 3 (dH 1 0)) (qAa (dSO 21 (dO 2)) (qAa (dSO 22 dZ) dNil))) zDHR1)
def zck_l7:SubQ:=mkL zck_d7 (fun x=>zck_p7 x.1.2.2.1 x.2.2.1.1 x.2.2.2.1) fun x r R kn kx kr=>kx 12 ⟨[sL 21 (.own 1)],[],[.view .u8 x.2.1,.row .u8 5 r]⟩
def zck_d1:=(dQS (qAa (dSO 3 (dH 1 0)) (qAa (dSO 5 (dO 2)) dNil)) zDHR1)
def zck_l1:SubQ:=mkL zck_d1 (fun x=>zck_p1 x.2.2.1.1 x.2.2.2.1) fun x r R kn kx kr=>kr ⟨[sL 4 (.own 1)],[],[.view .u8 x.2.1,.row .u8 5 r]⟩
def zck_L:Nat→SubQ:=tblL [(0,zck_l0),(4,zck_l4),(3,zck_l3),(5,zck_l5),(6,zck_l6),(2,zck_l2),(8,zck_l8),(7,zck_l7),(1,zck_l1)]
theorem zck_sub0:qA2 zck_L zck_G 1 24 242 0 zck_b0:=qAm (show zck_L 0=zck_l0 from by kernel_rfl) fun x R kn kx kr=>qAf (step:=fun y=>qD6 y.1 y.2) (enc:=fun (y:Int × (List Int))=>zck_d0.e ((x.1.1,x.1.2.1,x.1.2.2.1,y.1,x.1.2.2.2.2),(x.2.1,x.2.2.1,x.2.2.2.1,y.2,x.2.2.2.2.2))) (fun y=>by kernel_rfl) (fun y ki=>by simp only [qD6,-eq_self,sZ]; kernel_rfl) (x.1.2.2.2.1,x.2.2.2.2.1)
theorem zck_sub4:qA2 zck_L zck_G 1 24 242 4 zck_b4:=qAm (show zck_L 4=zck_l4 from by kernel_rfl) fun x R kn kx kr=>qAf (step:=fun y=>qFm x.1.2.2.1 x.1.2.2.2.2.1 y.1 x.2.2.2.1 y.2) (enc:=fun (y:Int × (List Int))=>zck_d4.e ((x.1.1,x.1.2.1,x.1.2.2.1,x.1.2.2.2.1,x.1.2.2.2.2.1,y.1,x.1.2.2.2.2.2.2),(x.2.1,x.2.2.1,x.2.2.2.1,(y.2,x.2.2.2.2.1.2),x.2.2.2.2.2))) (fun y=>by kernel_rfl) (fun y ki=>by simp only [qFm,-eq_self,sZ]; kernel_rfl) (x.1.2.2.2.2.2.1,x.2.2.2.2.1.1)
theorem zck_sub3:qA2 zck_L zck_G 1 24 242 3 zck_b3:=qAm (show zck_L 3=zck_l3 from by kernel_rfl) fun x R kn kx kr=>qAf (step:=fun y=>qBl x.1.2.2.1 y.1 y.2.1 x.2.2.2.1 y.2.2) (enc:=fun (y:Int × (List Int) × (List Int))=>zck_d3.e ((x.1.1,x.1.2.1,x.1.2.2.1,x.1.2.2.2.1,y.1,x.1.2.2.2.2.2),(x.2.1,(y.2.1,x.2.2.1.2),x.2.2.2.1,(y.2.2,x.2.2.2.2.1.2),x.2.2.2.2.2))) (fun y=>by kernel_rfl) (fun y ki=>by simp only [qBl,-eq_self,sZ]; kernel_rfl) (x.1.2.2.2.2.1,x.2.2.1.1,x.2.2.2.2.1.1)
theorem zck_sub5:qA2 zck_L zck_G 1 24 242 5 zck_b5:=qAm (show zck_L 5=zck_l5 from by kernel_rfl) fun x R kn kx kr=>qAf (step:=fun y=>qC2 y.1 x.2.2.2.2.1.1 y.2) (enc:=fun (y:Int × (List Int))=>zck_d5.e ((x.1.1,x.1.2.1,x.1.2.2.1,x.1.2.2.2.1,x.1.2.2.2.2.1,y.1,x.1.2.2.2.2.2.2),(x.2.1,x.2.2.1,x.2.2.2.1,x.2.2.2.2.1,(y.2,x.2.2.2.2.2.1.2),x.2.2.2.2.2.2))) (fun y=>by kernel_rfl) (fun y ki=>by simp only [qC2,-eq_self,sZ]; kernel_rfl) (x.1.2.2.2.2.2.1,x.2.2.2.2.2.1.1)
theorem zck_sub6:qA2 zck_L zck_G 1 24 242 6 zck_b6:=qAm (show zck_L 6=zck_l6 from by kernel_rfl) fun x R kn kx kr=>qAf (step:=fun y=>qFn y.1 y.2 x.2.2.2.2.1.1) (enc:=fun (y:Int × (List Int))=>zck_d6.e ((x.1.1,x.1.2.1,x.1.2.2.1,x.1.2.2.2.1,y.1,x.1.2.2.2.2.2),(x.2.1,(y.2,x.2.2.1.2),x.2.2.2))) (fun y=>by kernel_rfl) (fun y ki=>by simp only [qFn,-eq_self,sZ]; kernel_rfl) (x.1.2.2.2.2.1,x.2.2.1.1)
theorem zck_sub2:qA2 zck_L zck_G 1 24 242 2 zck_b2:=qAm (show zck_L 2=zck_l2 from by kernel_rfl) fun x R kn kx kr=>qAf (step:=fun y=>qD7 y.1 y.2 x.2.2.2.1) (enc:=fun (y:Int × (List Int))=>zck_d2.e ((x.1.1,x.1.2.1,y.1,x.1.2.2.2),(x.2.1,(y.2,x.2.2.1.2),x.2.2.2))) (fun y=>by kernel_rfl) (fun y ki=>by simp only [qD7,-eq_self,sZ]; kernel_rfl) (x.1.2.2.1,x.2.2.1.1)
theorem zck_sub8:qA2 zck_L zck_G 1 24 242 8 zck_b8:=qAm (show zck_L 8=zck_l8 from by kernel_rfl) fun x R kn kx kr=>qAf (step:=fun y=>qD8 x.1.2.2.1 y.1 x.2.2.1.1 y.2) (enc:=fun (y:Int × (List Int))=>zck_d8.e ((x.1.1,x.1.2.1,x.1.2.2.1,y.1,x.1.2.2.2.2),(x.2.1,x.2.2.1,y.2,x.2.2.2.2))) (fun y=>by kernel_rfl) (fun y ki=>by simp only [qD8,-eq_self,sZ]; kernel_rfl) (x.1.2.2.2.1,x.2.2.2.1)
theorem zck_sub7:qA2 zck_L zck_G 1 24 242 7 zck_b7:=qAm (show zck_L 7=zck_l7 from by kernel_rfl) fun x R kn kx kr=>qAf (step:=fun y=>qC3 y.1 y.2.1 y.2.2) (enc:=fun (y:Int × (List Int) × (List Int))=>zck_d7.e ((x.1.1,x.1.2.1,y.1,x.1.2.2.2),(x.2.1,(y.2.1,x.2.2.1.2),y.2.2,x.2.2.2.2))) (fun y=>by kernel_rfl) (fun y ki=>by simp only [qC3,-eq_self,sZ]; kernel_rfl) (x.1.2.2.1,x.2.2.1.1,x.2.2.2.1)
theorem zck_sub1:qA2 zck_L zck_G 1 24 242 1 zck_b1:=qAm (show zck_L 1=zck_l1 from by kernel_rfl) fun x R kn kx kr=>by
 simp only [zck_p1,-eq_self,sZ];kernel_rfl
def zck_c:CS:=mkC (qAa (dVC (dCO (dO 0))) (qAa (dVC (dCA (dSpr .u64 8 dNil))) dNil)) (qAa (qAt .u8) dNil) (fun x y=>zck_s y.1 x.2.1.1) (fun x y r=>.c (.o (.own 1))) fun x y r=>[.view .u8 y.1,.row .u8 5 r]
theorem zck_val:qAl Tryd.prog 39 zck_c:=vl1 zck_q [.tmp 4] 242 24 1 (raws:=[41,55]) (show qA8 zck_L zck_G 1 24 242 [(0,zck_b0),(1,zck_b1),(2,zck_b2),(3,zck_b3),(4,zck_b4),(5,zck_b5),(6,zck_b6),(7,zck_b7),(8,zck_b8)] from ⟨zck_sub0,zck_sub1,zck_sub2,zck_sub3,zck_sub4,zck_sub5,zck_sub6,zck_sub7,zck_sub8,tV⟩) (qAs ⟨zcj_ok,zcn_ok,tV⟩) fun x y=>by
 simp only [zck_s,-eq_self,sZ];kernel_rfl
def zck_w:CQ:=qBk [(0,none,some (.u8,5))] (qDb [false] zck_c)
theorem zck_ok:qAi Tryd.prog 39 zck_w:=qBd zck_val
def zci_q:IQ:=(.seq (rg 4 [oP 4 (.mv (.v (.slice none 0 0)))]) (.seq (.seq (rg 5 [oM 5 t0]) (.block 0 (.seq (rg 6 [oP 7 (.bi .eql t5 (vI 1)),oM 6 t7]) (.cond t6 (.seq (rg 4 [oM 8 t1,oP 9 (.call 38 [t8]),oM 4 t9]) (.canon [(4,none,.u8,5)] [4] .ret)) (.seq (rg 10 [oP 11 (.bi .eql t5 (vI 2)),oM 10 t11]) (.cond t10 (.seq (rg 4 [oM 12 t1,oP 13 (.load (some 8) (.v (.pointer (some ⟨0,0,none⟩)))),oP 14 (.call 39 [t12,t13]),oP 15 (.sub (some 1) t14 none (some (vI 48))),oM 4 t15]) (.canon [(4,none,.u8,5)] [4] .ret)) (.seq (rg 16 [oP 17 (.bi .eql t5 (vI 3)),oM 16 t17]) (.cond t16 (.seq (rg 4 [oM 18 t1,oP 19 (.load (some 8) (.v (.pointer (some ⟨1,0,none⟩)))),oP 20 (.call 39 [t18,t19]),oM 4 t20]) (.canon [(4,none,.u8,5)] [4] .ret)) .skip)))))))) (.seq (rg 4 [oP 4 (.mv (.v (.slice none 0 0)))]) (.canon [(4,none,.u8,5)] [4] .ret))))
def zci_s (h:Int) (b:(List Int)):Option ((List Int)) :=
 bif decide (h=(1:Int)) then (
  (zcl_s b).bind fun r1 =>
  some r1)
 else (
  bif decide (h=(2:Int)) then (
   (zck_s b (nrm 8 shaS384)).bind fun r2 =>
   gd (0≤(48:Int)∧(48:Int)≤r2.length) <|
   some (r2.take 48))
  else (
   bif decide (h=(3:Int)) then (
    (zck_s b (nrm 8 shaS512)).bind fun r3 =>
    some r3)
   else (
    some [])))
def zci_c:CS:=mkC (qAa (dVC (dCO dZ)) (qAa (dVC (dCO (dO 0))) dNil)) (qAa (qAt .u8) dNil) (fun x y=>zci_s x.1 y.1) (fun x y r=>.c (.o (.own 1))) fun x y r=>[.view .u8 y.1,.row .u8 5 r]
theorem zci_val:qAl Tryd.prog 19 zci_c:=vl0 zci_q [.tmp 4] 21 6 1 [(38,zcl_w),(39,zck_w)] ⟨zcl_ok,zck_ok,tV⟩ fun x y=>by
 simp only [zci_s,-eq_self,sZ];kernel_rfl
def zci_w:CQ:=qBk [(1,none,some (.u8,5))] (qDb [false] zci_c)
theorem zci_ok:qAi Tryd.prog 19 zci_w:=qBd zci_val
def zbh_q:IQ:=(.seq (rg 2 [oP 2 (.mv (.v (.string ⟨#[]⟩)))]) (.seq (rg 3 [oP 3 (.mv (.v (.string ⟨#[65,66,67,68,69,70,71,72,73,74,75,76,77,78,79,80,81,82,83,84,85,86,87,88,89,90,97,98,99,100,101,102,103,104,105,106,107,108,109,110,111,112,113,114,115,116,117,118,119,120,121,122,48,49,50,51,52,53,54,55,56,57]⟩)))]) (.seq (.seq (rg 4 [oM 4 t0]) (.cond t4 (.seq (rg 2 [oM 5 t3,oP 6 (.bi .add t5 (.v (.string ⟨#[43,47]⟩))),oM 2 t6]) (.cn [2] .ret)) .skip)) (.seq (rg 2 [oM 7 t3,oP 8 (.bi .add t7 (.v (.string ⟨#[45,95]⟩))),oM 2 t8]) (.cn [2] .ret)))))
def zbh_s (std:Bool):Option BA :=
 bif std then (
  gd ((⟨#[65,66,67,68,69,70,71,72,73,74,75,76,77,78,79,80,81,82,83,84,85,86,87,88,89,90,97,98,99,100,101,102,103,104,105,106,107,108,109,110,111,112,113,114,115,116,117,118,119,120,121,122,48,49,50,51,52,53,54,55,56,57]⟩:BA).size+(⟨#[43,47]⟩:BA).size≤9223372036854775807) <|
  some ((⟨#[65,66,67,68,69,70,71,72,73,74,75,76,77,78,79,80,81,82,83,84,85,86,87,88,89,90,97,98,99,100,101,102,103,104,105,106,107,108,109,110,111,112,113,114,115,116,117,118,119,120,121,122,48,49,50,51,52,53,54,55,56,57]⟩:BA)++(⟨#[43,47]⟩:BA)))
 else (
  gd ((⟨#[65,66,67,68,69,70,71,72,73,74,75,76,77,78,79,80,81,82,83,84,85,86,87,88,89,90,97,98,99,100,101,102,103,104,105,106,107,108,109,110,111,112,113,114,115,116,117,118,119,120,121,122,48,49,50,51,52,53,54,55,56,57]⟩:BA).size+(⟨#[45,95]⟩:BA).size≤9223372036854775807) <|
  some ((⟨#[65,66,67,68,69,70,71,72,73,74,75,76,77,78,79,80,81,82,83,84,85,86,87,88,89,90,97,98,99,100,101,102,103,104,105,106,107,108,109,110,111,112,113,114,115,116,117,118,119,120,121,122,48,49,50,51,52,53,54,55,56,57]⟩:BA)++(⟨#[45,95]⟩:BA)))
def zbh_c:CS:=mkC (qAa (dVC (dCO dB)) dNil) dNil (fun x y=>zbh_s x.1) (fun x y r=>.c (.o (.vS r))) fun x y r=>[]
theorem zbh_val:qAl Tryd.prog 56 zbh_c:=vl0 zbh_q [.tmp 2] 9 4 0 [] trivial fun x y=>by
 simp only [zbh_s,-eq_self,sZ];kernel_rfl
def zbh_w:CQ:=qBu [] zbh_c
theorem zbh_ok:qAi Tryd.prog 56 zbh_w:=qAw zbh_val
def zbg_q:IQ:=(.seq (rg 4 [oP 4 (.mv (vI 0))]) (.seq (.seq (rg 9 [oM 5 t1,oP 6 (.bi .quo t5 (vI 8)),oM 7 t0,oP 8 (.len t7),oP 9 (.bi .geq t6 t8)]) (.cond t9 (.seq (rg 4 [oP 4 (.mv (vI 0))]) (.cn [4] .ret)) .skip)) (.seq (rg 4 [oM 10 t0,oM 11 t1,oP 12 (.bi .quo t11 (vI 8)),oP 13 (.iaddr 1 t10 t12),oP 14 (.load none t13),oM 15 t1,oP 16 (.bi .rem t15 (vI 8)),oP 17 (.bi .sub (vI 7) t16),oP 18 (.conv false .u64 t17),oP 19 (.bi .shr t14 t18),oP 20 (.conv false .i64 t19),oP 21 (.bi .and t20 (vI 1)),oM 4 t21]) (.cn [4] .ret))))
def zbg_s (b:(List Int)) (i:Int):Option Int :=
 gd (0≤i∧i≤9223372036854775807∧1≤(8:Int)) <|
 bif decide ((b.length:Int)≤(i / (8:Int))) then (
  some (0:Int))
 else (
  gd (0≤i∧i≤9223372036854775807∧1≤(8:Int)) <|
  gd (0≤(i / (8:Int))∧(i / (8:Int))<b.length) <|
  gd ((Int.toNat (i / (8:Int)))<b.length) <|
  gd (0≤i∧1≤(8:Int)) <|
  gd (qAc ((7:Int) - (i % (8:Int)))) <|
  gd (0≤(((7:Int) - (i % (8:Int))) % 18446744073709551616)) <|
  gd (qAc ((b.getD (Int.toNat (i / (8:Int))) (ET.dft .u8)) / 2 ^ (min (Int.toNat (((7:Int) - (i % (8:Int))) % 18446744073709551616)) (IntKind.bits .u8)))) <|
  some (qAg .i64 ((b.getD (Int.toNat (i / (8:Int))) (ET.dft .u8)) / 2 ^ (min (Int.toNat (((7:Int) - (i % (8:Int))) % 18446744073709551616)) (IntKind.bits .u8))) (1:Int)))
def zbg_c:CS:=mkC (qAa (dVC (dCO (dO 0))) (qAa (dVC (dCO dZ)) dNil)) (qAa (qAt .u8) dNil) (fun x y=>zbg_s y.1 x.2.1) (fun x y r=>.c (.o (.vI r))) fun x y r=>[.view .u8 y.1]
theorem zbg_val:qAl Tryd.prog 57 zbg_c:=vl0 zbg_q [.tmp 4] 22 5 1 [] trivial fun x y=>by
 simp only [zbg_s,-eq_self,sZ];kernel_rfl
def zbg_w:CQ:=qBk [(0,none,some (.u8,5))] (qBu [false] zbg_c)
theorem zbg_ok:qAi Tryd.prog 57 zbg_w:=qAr zbg_val
def zbi_b1:IQ:=(.loop [0,5,6,7,8,9] (.seq (.seq (rg 20 [oM 19 t9,oP 20 (.bi .lss t19 (vI 6))]) (.cond t20 .skip (.canon [(6,none,.u8,5)] [0,5,6,7,8] (.exit 2)))) (.seq (.block 3 (rg 8 [oM 23 t8,oP 24 (.bi .mul (vI 2) t23),oM 25 t0,oM 26 t7,oM 27 t9,oP 28 (.bi .add t26 t27),oP 29 (.call 57 [t25,t28]),oP 30 (.bi .add t24 t29),oM 8 t30])) (rg 9 [oM 21 t9,oP 22 (.bi .add t21 (vI 1)),oM 9 t22]))))
def zbi_b0:IQ:=(.loop [0,5,6,7] (.seq (.seq (rg 16 [oM 12 t7,oM 13 t0,oP 14 (.len t13),oP 15 (.bi .mul (vI 8) t14),oP 16 (.bi .lss t12 t15)]) (.cond t16 .skip (.cn [6] (.exit 0)))) (.seq (.block 1 (.seq (rg 8 [oP 8 (.mv (vI 0))]) (.seq (.seq (rg 9 [oP 9 (.mv (vI 0))]) (.block 2 (.canon [(6,none,.u8,5)] [0,5,6,7,8,9] (.sub 1 zbi_b1)))) (rg 6 [oM 31 t6,oM 32 t5,oM 33 t8,oP 34 (.index t32 t33),oP 35 (.bslice 5 1 1 [.int .u8 0] [(0,t34)]),oP 36 (.append 5 1 1 [.int .u8 0] t31 t35),oM 6 t36])))) (rg 7 [oM 17 t7,oP 18 (.bi .add t17 (vI 6)),oM 7 t18]))))
def zbi_q:IQ:=(.seq (rg 4 [oP 4 (.mv (.v (.string ⟨#[]⟩)))]) (.seq (rg 5 [oM 10 t1,oP 11 (.call 56 [t10]),oM 5 t11]) (.seq (rg 6 [oP 6 (.mv (.v (.slice none 0 0)))]) (.seq (.seq (rg 7 [oP 7 (.mv (vI 0))]) (.block 0 (.canon [(6,none,.u8,5)] [0,5,6,7] (.sub 0 zbi_b0)))) (.seq (rg 4 [oM 37 t6,oP 38 (.ext .toStr [t37]),oM 4 t38]) (.cn [4] .ret))))))
def qDx (i n k_:Int) (b:List Int):Option ((Int × Int) ⊕ Int) :=
 bif decide (k_<(6:Int)) then (
  gd (qAc ((2:Int)*n)) <|
  gd (qAc (i+k_)) <|
  (zbg_s b (i+k_)).bind fun r19 =>
  gd (qAc (((2:Int)*n)+r19)) <|
  gd (qAc (k_+(1:Int))) <|
  some (.inl ((((2:Int)*n)+r19),(k_+(1:Int)))))
 else (
  some (.inr n))
def zbi_p1 (i n k_:Int) (b:List Int):Option Int :=
 qAn (fun x:(Int × Int)=>qDx i x.1 x.2 b) (n,k_)
def qCy (all:BA) (i:Int) (b out:List Int):Option ((Int × (List Int)) ⊕ ((List Int))) :=
 gd (qAc ((8:Int)*(b.length:Int))) <|
 bif decide (i<((8:Int)*(b.length:Int))) then (
  (zbi_p1 i (0:Int) (0:Int) b).bind fun o20 =>
  gd (0≤o20∧o20<all.size) <|
  gd (out.length+([(bAt all o20)]:List Int).length≤9223372036854775807∧(out.length+([(bAt all o20)]:List Int).length)*1≤140737488355328) <|
  gd (qAc (i+(6:Int))) <|
  some (.inl ((i+(6:Int)),(out++[(bAt all o20)]))))
 else (
  some (.inr out))
def zbi_p0 (all:BA) (i:Int) (b out:List Int):Option ((List Int)) :=
 qAn (fun x:(Int × (List Int))=>qCy all x.1 b x.2) (i,out)
def zbi_s (b:(List Int)) (std:Bool):Option BA :=
 (zbh_s std).bind fun r18 =>
 (zbi_p0 r18 (0:Int) b []).bind fun o21 =>
 some (qGg o21)
def zbi_G:Nat→Option CQ:=tblQ [(56,zbh_w),(57,zbg_w)]
def zbi_d1:=(dQS (qAa (dSO 0 (dO 0)) (qAa (dSO 5 dS) (qAa (dSO 6 (dO 1)) (qAa (dSO 7 dZ) (qAa (dSO 8 dZ) (qAa (dSO 9 dZ) dNil)))))) zDHR2)
def zbi_l1:SubQ:=mkL zbi_d1 (fun x=>zbi_p1 x.1.2.2.2.1 x.1.2.2.2.2.1 x.1.2.2.2.2.2.1 x.2.1) fun x r R kn kx kr=>kx 2 ⟨[sL 0 (.own 0),sL 5 (.vS x.1.2.1),sL 6 (.own 1),sL 7 (.vI x.1.2.2.2.1),sL 8 (.vI r)],[],[.view .u8 x.2.1,.row .u8 5 x.2.2.1]⟩
def zbi_d0:=(dQS (qAa (dSO 0 (dO 0)) (qAa (dSO 5 dS) (qAa (dSO 6 (dO 1)) (qAa (dSO 7 dZ) dNil)))) zDHR2)
def zbi_l0:SubQ:=mkL zbi_d0 (fun x=>zbi_p0 x.1.2.1 x.1.2.2.2.1 x.2.1 x.2.2.1) fun x r R kn kx kr=>kx 0 ⟨[sL 6 (.own 1)],[],[.view .u8 x.2.1,.row .u8 5 r]⟩
def zbi_L:Nat→SubQ:=tblL [(1,zbi_l1),(0,zbi_l0)]
theorem zbi_sub1:qA2 zbi_L zbi_G 1 10 39 1 zbi_b1:=qAm (show zbi_L 1=zbi_l1 from by kernel_rfl) fun x R kn kx kr=>qAf (step:=fun y=>qDx x.1.2.2.2.1 y.1 y.2 x.2.1) (enc:=fun (y:Int × Int)=>zbi_d1.e ((x.1.1,x.1.2.1,x.1.2.2.1,x.1.2.2.2.1,y.1,y.2,x.1.2.2.2.2.2.2),x.2)) (fun y=>by kernel_rfl) (fun y ki=>by simp only [qDx,-eq_self,sZ]; kernel_rfl) (x.1.2.2.2.2.1,x.1.2.2.2.2.2.1)
theorem zbi_sub0:qA2 zbi_L zbi_G 1 10 39 0 zbi_b0:=qAm (show zbi_L 0=zbi_l0 from by kernel_rfl) fun x R kn kx kr=>qAf (step:=fun y=>qCy x.1.2.1 y.1 x.2.1 y.2) (enc:=fun (y:Int × (List Int))=>zbi_d0.e ((x.1.1,x.1.2.1,x.1.2.2.1,y.1,x.1.2.2.2.2),(x.2.1,y.2,x.2.2.2))) (fun y=>by kernel_rfl) (fun y ki=>by simp only [qCy,-eq_self,sZ]; kernel_rfl) (x.1.2.2.2.1,x.2.2.1)
def zbi_c:CS:=mkC (qAa (dVC (dCO (dO 0))) (qAa (dVC (dCO dB)) dNil)) (qAa (qAt .u8) dNil) (fun x y=>zbi_s y.1 x.2.1) (fun x y r=>.c (.o (.vS r))) fun x y r=>[.view .u8 y.1]
theorem zbi_val:qAl Tryd.prog 40 zbi_c:=vl1 zbi_q [.tmp 4] 39 10 1 (show qA8 zbi_L zbi_G 1 10 39 [(0,zbi_b0),(1,zbi_b1)] from ⟨zbi_sub0,zbi_sub1,tV⟩) (qAs ⟨zbh_ok,zbg_ok,tV⟩) fun x y=>by
 simp only [zbi_s,-eq_self,sZ];kernel_rfl
def zbi_w:CQ:=qBk [(0,none,some (.u8,5))] (qBu [false] zbi_c)
theorem zbi_ok:qAi Tryd.prog 40 zbi_w:=qAr zbi_val
def zbf_q:IQ:=(.seq (rg 2 [oP 2 (.mv (.v (.string ⟨#[]⟩)))]) (.seq (rg 2 [oM 3 t0,oP 4 (.call 40 [t3,vF]),oM 2 t4]) (.cn [2] .ret)))
def zbf_s (b:(List Int)):Option BA :=
 (zbi_s b false).bind fun r1 =>
 some r1
def zbf_c:CS:=mkC (qAa (dVC (dCO (dO 0))) dNil) (qAa (qAt .u8) dNil) (fun x y=>zbf_s y.1) (fun x y r=>.c (.o (.vS r))) fun x y r=>[.view .u8 y.1]
theorem zbf_val:qAl Tryd.prog 20 zbf_c:=vl0 zbf_q [.tmp 2] 5 3 1 [(40,zbi_w)] ⟨zbi_ok,tV⟩ fun x y=>by
 simp only [zbf_s,-eq_self,sZ];kernel_rfl
def zbf_w:CQ:=qBk [(0,none,some (.u8,5))] (qBu [false] zbf_c)
theorem zbf_ok:qAi Tryd.prog 20 zbf_w:=qAr zbf_val
def zbk_q:IQ:=(.seq (rg 5 [oP 4 (.mv (.v (.string ⟨#[]⟩))),oP 5 (.mv (vI 0))]) (.seq (rg 6 [oM 8 t0,oP 9 (.call 18 [t8]),oM 6 t9]) (.seq (.seq (rg 11 [oM 10 t6,oP 11 (.bi .eql t10 (vI 0))]) (.cond t11 (.seq (rg 5 [oP 4 (.mv (.v (.string ⟨#[]⟩))),oP 5 (.mv (vI 111))]) (.cn [4,5] .ret)) .skip)) (.seq (rg 7 [oM 12 t6,oM 13 t1,oP 14 (.ext (.toBytes 5) [t13]),oP 15 (.call 19 [t12,t14]),oM 7 t15]) (.seq (rg 5 [oM 16 t7,oM 17 t7,oP 18 (.len t17),oP 19 (.bi .quo t18 (vI 2)),oP 20 (.sub (some 1) t16 none (some t19)),oP 21 (.call 20 [t20]),oM 4 t21,oP 5 (.mv (vI 0))]) (.cn [4,5] .ret))))))
def zbk_s (a:Int) (text:BA):Option (BA × Int) :=
 (zbm_s a).bind fun r1 =>
 bif decide (r1=(0:Int)) then (
  some ((⟨#[]⟩:BA),(111:Int)))
 else (
  (zci_s r1 (qBy text)).bind fun r2 =>
  gd (0≤(r2.length:Int)∧(r2.length:Int)≤9223372036854775807∧1≤(2:Int)) <|
  gd (0≤((r2.length:Int) / (2:Int))∧((r2.length:Int) / (2:Int))≤r2.length) <|
  (zbf_s (r2.take (Int.toNat ((r2.length:Int) / (2:Int))))).bind fun r3 =>
  some (r3,(0:Int)))
def zbk_c:CS:=mkC (qAa (dVC (dCO dZ)) (qAa (dVC (dCO dS)) dNil)) dNil (fun x y=>zbk_s x.1 x.2.1) (fun x y r=>.tup [.o (.vS r.1),.o (.vI r.2)]) fun x y r=>[]
theorem zbk_val:qAl Tryd.prog 6 zbk_c:=vl0 zbk_q [.tmp 4,.tmp 5] 22 8 0 [(18,zbm_w),(19,zci_w),(20,zbf_w)] ⟨zbm_ok,zci_ok,zbf_ok,tV⟩ fun x y=>by
 simp only [zbk_s,-eq_self,sZ];kernel_rfl
def zbk_w:CQ:=qBu [] zbk_c
theorem zbk_ok:qAi Tryd.prog 6 zbk_w:=qAw zbk_val
end
end Go.Proofs.YtobmafbliahplaaDoor
