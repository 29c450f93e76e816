/-
  Texts of a claim.
-/
import Derived.Test.YtobmafbliahplaaDoorEngO
import Derived.Test.YtobmafbliahplaaDoorProg
namespace Go.Proofs.YtobmafbliahplaaDoor
open Go.Eng
set_option linter.unusedVariables false
set_option linter.unusedSimpArgs false
set_option maxRecDepth 100000
noncomputable section
structure qFp where
 hash:Int
 short:(List Int)
 long:(List Int)
 rest:(List Int)
 n:Int
def zag_q:IQ:=(.seq (rg 2 [oP 2 (.mv (vI 0))]) (.seq (.seq (rg 3 [oM 3 t0]) (.block 0 (.seq (rg 4 [oP 5 (.bi .eql t3 (vI 1)),oM 4 t5]) (.cond t4 (.seq (rg 2 [oP 2 (.mv (vI 64))]) (.cn [2] .ret)) (.seq (.seq (rg 6 [oP 7 (.bi .eql t3 (vI 2)),oM 6 t7]) (.cond t6 .skip (rg 6 [oP 8 (.bi .eql t3 (vI 3)),oM 6 t8]))) (.cond t6 (.seq (rg 2 [oP 2 (.mv (vI 128))]) (.cn [2] .ret)) .skip)))))) (.seq (rg 2 [oP 2 (.mv (vI 0))]) (.cn [2] .ret))))
def zag_s (h:Int):Option Int :=
 bif decide (h=(1:Int)) then (
  some (64:Int))
 else (
  bif decide (h=(2:Int)) then (
   bif decide (h=(2:Int)) then (
    some (128:Int))
   else (
    some (0:Int)))
  else (
   bif decide (h=(3:Int)) then (
    some (128:Int))
   else (
    some (0:Int))))
def zag_c:CS:=mkC (qAa (dVC (dCO dZ)) dNil) dNil (fun x y=>zag_s x.1) (fun x y r=>.c (.o (.vI r))) fun x y r=>[]
theorem zag_val:qA0 Tryd.prog 51 zag_c:=vl0 zag_q [.tmp 2] 9 4 0 [] trivial fun x y=>by
 simp only [zag_s,-eq_self,sZ];kernel_rfl
def zag_w:CQ:=liftV [] zag_c
theorem zag_ok:qAm Tryd.prog 51 zag_w:=qBf zag_val
def zah_q:IQ:=(.seq (rg 2 [oP 2 (.mv (vI 0))]) (.seq (.seq (rg 3 [oM 3 t0]) (.block 0 (.seq (rg 4 [oP 5 (.bi .eql t3 (vI 1)),oM 4 t5]) (.cond t4 (.seq (rg 2 [oP 2 (.mv (vI 32))]) (.cn [2] .ret)) (.seq (rg 6 [oP 7 (.bi .eql t3 (vI 2)),oM 6 t7]) (.cond t6 (.seq (rg 2 [oP 2 (.mv (vI 48))]) (.cn [2] .ret)) (.seq (rg 8 [oP 9 (.bi .eql t3 (vI 3)),oM 8 t9]) (.cond t8 (.seq (rg 2 [oP 2 (.mv (vI 64))]) (.cn [2] .ret)) .skip)))))))) (.seq (rg 2 [oP 2 (.mv (vI 0))]) (.cn [2] .ret))))
def zah_s (h:Int):Option Int :=
 bif decide (h=(1:Int)) then (
  some (32:Int))
 else (
  bif decide (h=(2:Int)) then (
   some (48:Int))
  else (
   bif decide (h=(3:Int)) then (
    some (64:Int))
   else (
    some (0:Int))))
def zah_c:CS:=mkC (qAa (dVC (dCO dZ)) dNil) dNil (fun x y=>zah_s x.1) (fun x y r=>.c (.o (.vI r))) fun x y r=>[]
theorem zah_val:qA0 Tryd.prog 17 zah_c:=vl0 zah_q [.tmp 2] 10 4 0 [] trivial fun x y=>by
 simp only [zah_s,-eq_self,sZ];kernel_rfl
def zah_w:CQ:=liftV [] zah_c
theorem zah_ok:qAm Tryd.prog 17 zah_w:=qBf zah_val
def zae_q:IQ:=(.seq (rg 4 [oP 4 (.mv (.v (.int .u32 0)))]) (.seq (rg 5 [oM 6 t1,oP 7 (.conv false .u64 t6),oP 8 (.bi .and t7 (.v (.int .u64 31))),oM 5 t8]) (.seq (rg 4 [oM 9 t0,oM 10 t5,oP 11 (.bi .shl t9 t10),oM 12 t0,oM 13 t5,oP 14 (.bi .sub (.v (.int .u64 32)) t13),oP 15 (.bi .shr t12 t14),oP 16 (.bi .or t11 t15),oM 4 t16]) (.cn [4] .ret))))
def zae_s (x_ k_:Int):Option Int :=
 gd (0≤(qAd .u64 (k_ % 18446744073709551616) (31:Int))) <|
 gd (0≤(((32:Int) - (qAd .u64 (k_ % 18446744073709551616) (31:Int))) % 18446744073709551616)) <|
 some (qA6 .u32 ((x_*2 ^ (min (Int.toNat (qAd .u64 (k_ % 18446744073709551616) (31:Int))) (IntKind.bits .u32))) % 4294967296) (x_ / 2 ^ (min (Int.toNat (((32:Int) - (qAd .u64 (k_ % 18446744073709551616) (31:Int))) % 18446744073709551616)) (IntKind.bits .u32))))
def zae_c:CS:=mkC (qAa (dVC (dCO (dI .u32))) (qAa (dVC (dCO dZ)) dNil)) dNil (fun x y=>zae_s x.1 x.2.1) (fun x y r=>.c (.o (.val (.int .u32 r)))) fun x y r=>[]
theorem zae_val:qA0 Tryd.prog 72 zae_c:=vl0 zae_q [.tmp 4] 17 6 0 [] trivial fun x y=>by
 simp only [zae_s,-eq_self,sZ];kernel_rfl
def zae_w:CQ:=liftV [] zae_c
theorem zae_ok:qAm Tryd.prog 72 zae_w:=qBf zae_val
def zal_b0:IQ:=(.loop [0,2,21] (.seq (rg 22 [oP 22 (.bi .lss t21 (vI 16))]) (.seq (.cond t22 .skip (.cn [0,2] (.exit 0))) (.seq (.block 1 (.seq (rg 3 [oM 23 t21,oM 3 t23]) (.seq (rg 4 [oM 24 t0,oP 25 (.nk t24),oP 26 (.faddr 17 t25),oM 27 t3,oP 28 (.bi .mul (vI 4) t27),oP 29 (.ext (.asub 128) [t26,t28,(vI 128)]),oM 4 t29]) (.reg 0 (some [0,1,2,3,4,5,6,7,8,9,10,11,12,13,14,15,16,17,18,19,20,21,22,23,24]) [oM 30 t3,oM 31 t4,oP 32 (.iaddr 1 t31 (vI 0)),oP 33 (.load none t32),oP 34 (.conv false .u32 t33),oP 35 (.bi .shl t34 (.v (.int .u64 24))),oM 36 t4,oP 37 (.iaddr 1 t36 (vI 1)),oP 38 (.load none t37),oP 39 (.conv false .u32 t38),oP 40 (.bi .shl t39 (.v (.int .u64 16))),oP 41 (.bi .or t35 t40),oM 42 t4,oP 43 (.iaddr 1 t42 (vI 2)),oP 44 (.load none t43),oP 45 (.conv false .u32 t44),oP 46 (.bi .shl t45 (.v (.int .u64 8))),oP 47 (.bi .or t41 t46),oM 48 t4,oP 49 (.iaddr 1 t48 (vI 3)),oP 50 (.load none t49),oP 51 (.conv false .u32 t50),oP 52 (.bi .or t47 t51),oP 53 (.ext (.pidx 64 1) [t2,t30]),oN (.store 1 t53 t52)])))) (rg 21 [oP 54 (.bi .add t21 (vI 1)),oM 21 t54])))))
def zal_b1:IQ:=(.loop [0,2,5] (.seq (.seq (rg 56 [oM 55 t5,oP 56 (.bi .lss t55 (vI 64))]) (.cond t56 .skip (.cn [0,2] (.exit 2)))) (.seq (.block 3 (.seq (.reg 7 (some [0,1,2,3,4,5,6,7,8,9]) [oM 59 t5,oP 60 (.bi .sub t59 (vI 15)),oP 61 (.ext (.pidx 64 1) [t2,t60]),oP 62 (.load none t61),oM 63 t5,oP 64 (.bi .sub t63 (vI 2)),oP 65 (.ext (.pidx 64 1) [t2,t64]),oP 66 (.load none t65),oM 6 t62,oM 7 t66]) (.reg 0 (some [0,1,2,3,4,5,6,7,8,9,10,12,15,16,19,21,24,25,11,13,14,17,18,20,22,23,26,27,28,29]) [oM 67 t5,oM 68 t5,oP 69 (.bi .sub t68 (vI 16)),oP 70 (.ext (.pidx 64 1) [t2,t69]),oP 71 (.load none t70),oM 72 t5,oP 73 (.bi .sub t72 (vI 7)),oP 74 (.ext (.pidx 64 1) [t2,t73]),oP 75 (.load none t74),oP 76 (.bi .add t71 t75),oM 77 t6,oM 79 t6,oM 82 t6,oP 83 (.bi .shr t82 (.v (.int .u64 3))),oM 86 t7,oM 88 t7,oM 91 t7,oP 92 (.bi .shr t91 (.v (.int .u64 10))),oP 78 (.call 72 [t77,(.v (.int .i64 (-7)))]),oP 80 (.call 72 [t79,(.v (.int .i64 (-18)))]),oP 81 (.bi .xor t78 t80),oP 84 (.bi .xor t81 t83),oP 85 (.bi .add t76 t84),oP 87 (.call 72 [t86,(.v (.int .i64 (-17)))]),oP 89 (.call 72 [t88,(.v (.int .i64 (-19)))]),oP 90 (.bi .xor t87 t89),oP 93 (.bi .xor t90 t92),oP 94 (.bi .add t85 t93),oP 95 (.ext (.pidx 64 1) [t2,t67]),oN (.store 1 t95 t94)]))) (rg 5 [oM 57 t5,oP 58 (.bi .add t57 (vI 1)),oM 5 t58]))))
def zal_b2:IQ:=(.loop [0,2,8,9,10,11,12,13,14,15,136] (.seq (rg 137 [oP 137 (.bi .lss t136 (vI 64))]) (.seq (.cond t137 .skip (.cn [0,8,9,10,11,12,13,14,15] (.exit 4))) (.seq (.block 5 (.seq (rg 16 [oM 138 t136,oM 16 t138]) (.seq (.reg 17 (some [0,1,3,6,10,11,12,13,14,15,16,18,19,20,22,23,24,2,4,5,7,8,9,17,21,25,26]) [oM 139 t15,oM 140 t12,oM 142 t12,oM 145 t12,oM 149 t14,oM 150 t12,oM 151 t13,oM 152 t14,oP 153 (.bi .xor t151 t152),oP 154 (.bi .and t150 t153),oP 155 (.bi .xor t149 t154),oM 157 t16,oP 158 (.ext (.pidx 64 1) [(.v (.pointer (some ⟨8,0,none⟩))),t157]),oP 159 (.load none t158),oM 161 t16,oP 162 (.ext (.pidx 64 1) [t2,t161]),oP 163 (.load none t162),oP 141 (.call 72 [t140,(.v (.int .i64 (-6)))]),oP 143 (.call 72 [t142,(.v (.int .i64 (-11)))]),oP 144 (.bi .xor t141 t143),oP 146 (.call 72 [t145,(.v (.int .i64 (-25)))]),oP 147 (.bi .xor t144 t146),oP 148 (.bi .add t139 t147),oP 156 (.bi .add t148 t155),oP 160 (.bi .add t156 t159),oP 164 (.bi .add t160 t163),oM 17 t164]) (.seq (rg 18 [oM 165 t8,oP 166 (.call 72 [t165,(.v (.int .i64 (-2)))]),oM 167 t8,oP 168 (.call 72 [t167,(.v (.int .i64 (-13)))]),oP 169 (.bi .xor t166 t168),oM 170 t8,oP 171 (.call 72 [t170,(.v (.int .i64 (-22)))]),oP 172 (.bi .xor t169 t171),oM 173 t8,oM 174 t9,oP 175 (.bi .and t173 t174),oM 176 t10,oM 177 t8,oM 178 t9,oP 179 (.bi .or t177 t178),oP 180 (.bi .and t176 t179),oP 181 (.bi .or t175 t180),oP 182 (.bi .add t172 t181),oM 18 t182]) (rg 8 [oM 183 t14,oM 184 t13,oM 185 t12,oM 186 t11,oM 187 t17,oP 188 (.bi .add t186 t187),oM 189 t10,oM 190 t9,oM 191 t8,oM 192 t17,oM 193 t18,oP 194 (.bi .add t192 t193),oM 15 t183,oM 14 t184,oM 13 t185,oM 12 t188,oM 11 t189,oM 10 t190,oM 9 t191,oM 8 t194]))))) (rg 136 [oP 195 (.bi .add t136 (vI 1)),oM 136 t195])))))
def zal_b3:IQ:=(.loop [0,204,205] (.seq (rg 206 [oP 206 (.bi .lss t205 (vI 8))]) (.seq (.cond t206 .skip (.cn [] (.exit 6))) (.seq (.block 7 (.seq (rg 20 [oM 207 t205,oP 208 (.ext (.aix 8) [t204,t205]),oM 19 t207,oM 20 t208]) (.reg 0 (some [0,1,2,3,4,5,6,7,8,9,10,11]) [oM 209 t0,oM 210 t19,oP 211 (.nk t209),oP 212 (.faddr 1 t211),oP 213 (.ext (.pidx 8 1) [t212,t210]),oP 214 (.load none t213),oM 215 t20,oP 216 (.bi .add t214 t215),oP 217 (.nk t209),oP 218 (.faddr 1 t217),oP 219 (.ext (.pidx 8 1) [t218,t210]),oN (.store 1 t219 t216)]))) (rg 205 [oP 220 (.bi .add t205 (vI 1)),oM 205 t220])))))
def zal_q:IQ:=(.join [] [] (.seq (rg 2 [oP 2 (.alloc 88 (List.replicate 64 (.int .u32 0)))]) (.seq (.seq (rg 21 [oP 21 (.mv (vI 0))]) (.block 0 (.cn [0,2,21] (.sub 0 zal_b0)))) (.seq (.seq (rg 5 [oP 5 (.mv (vI 16))]) (.block 2 (.cn [0,2,5] (.sub 1 zal_b1)))) (.seq (.reg 15 (some [0,1,2,3,4,5,6,7,8,9,10,11,12,13,14,15,16,17,18,19,20,21,22,23,24,25,26,27,28,29,30,31,32,33,34,35,36,37,38,39,40,41,42,43,44,45,46,47]) [oM 96 t0,oP 97 (.nk t96),oP 98 (.faddr 1 t97),oP 99 (.faddr 0 t98),oP 100 (.load none t99),oM 101 t0,oP 102 (.nk t101),oP 103 (.faddr 1 t102),oP 104 (.faddr 1 t103),oP 105 (.load none t104),oM 106 t0,oP 107 (.nk t106),oP 108 (.faddr 1 t107),oP 109 (.faddr 2 t108),oP 110 (.load none t109),oM 111 t0,oP 112 (.nk t111),oP 113 (.faddr 1 t112),oP 114 (.faddr 3 t113),oP 115 (.load none t114),oM 116 t0,oP 117 (.nk t116),oP 118 (.faddr 1 t117),oP 119 (.faddr 4 t118),oP 120 (.load none t119),oM 121 t0,oP 122 (.nk t121),oP 123 (.faddr 1 t122),oP 124 (.faddr 5 t123),oP 125 (.load none t124),oM 126 t0,oP 127 (.nk t126),oP 128 (.faddr 1 t127),oP 129 (.faddr 6 t128),oP 130 (.load none t129),oM 131 t0,oP 132 (.nk t131),oP 133 (.faddr 1 t132),oP 134 (.faddr 7 t133),oP 135 (.load none t134),oM 8 t100,oM 9 t105,oM 10 t110,oM 11 t115,oM 12 t120,oM 13 t125,oM 14 t130,oM 15 t135]) (.seq (.seq (rg 136 [oP 136 (.mv (vI 0))]) (.block 4 (.cn [0,2,8,9,10,11,12,13,14,15,136] (.sub 2 zal_b2)))) (.seq (rg 205 [oM 196 t8,oM 197 t9,oM 198 t10,oM 199 t11,oM 200 t12,oM 201 t13,oM 202 t14,oM 203 t15,oP 204 (.build [.int .u32 0,.int .u32 0,.int .u32 0,.int .u32 0,.int .u32 0,.int .u32 0,.int .u32 0,.int .u32 0] [(0,1,t196),(1,1,t197),(2,1,t198),(3,1,t199),(4,1,t200),(5,1,t201),(6,1,t202),(7,1,t203)]),oP 205 (.mv (vI 0))]) (.block 6 (.cn [0,204,205] (.sub 3 zal_b3))))))))))
def qEi (x21_:Int) (s_rest w_v:List Int):Option ((Int × (List Int)) ⊕ ((List Int))) :=
 bif decide (x21_<(16:Int)) then (
  gd (qAe ((4:Int)*x21_)) <|
  gd (0≤((4:Int)*x21_)∧((4:Int)*x21_)≤(128:Int)∧(128:Int)≤((128:Nat):Int)) <|
  gd (0≤(0:Int)∧(0:Int)<(((128 - (Int.toNat ((4:Int)*x21_))):Nat):Int)∧(Int.toNat ((4:Int)*x21_))+(128 - (Int.toNat ((4:Int)*x21_)))≤128) <|
  gd (((Int.toNat ((4:Int)*x21_))+0)<128) <|
  gd (0≤(24:Int)) <|
  gd (0≤(1:Int)∧(1:Int)<(((128 - (Int.toNat ((4:Int)*x21_))):Nat):Int)∧(Int.toNat ((4:Int)*x21_))+(128 - (Int.toNat ((4:Int)*x21_)))≤128) <|
  gd (((Int.toNat ((4:Int)*x21_))+1)<128) <|
  gd (0≤(16:Int)) <|
  gd (0≤(2:Int)∧(2:Int)<(((128 - (Int.toNat ((4:Int)*x21_))):Nat):Int)∧(Int.toNat ((4:Int)*x21_))+(128 - (Int.toNat ((4:Int)*x21_)))≤128) <|
  gd (((Int.toNat ((4:Int)*x21_))+2)<128) <|
  gd (0≤(8:Int)) <|
  gd (0≤(3:Int)∧(3:Int)<(((128 - (Int.toNat ((4:Int)*x21_))):Nat):Int)∧(Int.toNat ((4:Int)*x21_))+(128 - (Int.toNat ((4:Int)*x21_)))≤128) <|
  gd (((Int.toNat ((4:Int)*x21_))+3)<128) <|
  gd (0≤x21_∧x21_<((64:Nat):Int)) <|
  gd ((Int.toNat x21_)<64) <|
  gd (qAe (x21_+(1:Int))) <|
  some (.inl ((x21_+(1:Int)),((nrm 64 w_v).set (Int.toNat x21_) (qA6 .u32 (qA6 .u32 (qA6 .u32 (((((nrm 128 s_rest).getD ((Int.toNat ((4:Int)*x21_))+0) 0) % 4294967296)*16777216) % 4294967296) (((((nrm 128 s_rest).getD ((Int.toNat ((4:Int)*x21_))+1) 0) % 4294967296)*65536) % 4294967296)) (((((nrm 128 s_rest).getD ((Int.toNat ((4:Int)*x21_))+2) 0) % 4294967296)*256) % 4294967296)) (((nrm 128 s_rest).getD ((Int.toNat ((4:Int)*x21_))+3) 0) % 4294967296))))))
 else (
  some (.inr w_v))
def zal_p0 (x21_:Int) (s_rest w_v:List Int):Option ((List Int)) :=
 qAp (fun x:(Int × (List Int))=>qEi x.1 s_rest x.2) (x21_,w_v)
def qEj (i:Int) (w_v:List Int):Option ((Int × (List Int)) ⊕ ((List Int))) :=
 bif decide (i<(64:Int)) then (
  gd (qAe (i - (15:Int))) <|
  gd (0≤(i - (15:Int))∧(i - (15:Int))<((64:Nat):Int)) <|
  gd ((Int.toNat (i - (15:Int)))<64) <|
  gd (qAe (i - (2:Int))) <|
  gd (0≤(i - (2:Int))∧(i - (2:Int))<((64:Nat):Int)) <|
  gd ((Int.toNat (i - (2:Int)))<64) <|
  gd (qAe (i - (16:Int))) <|
  gd (0≤(i - (16:Int))∧(i - (16:Int))<((64:Nat):Int)) <|
  gd ((Int.toNat (i - (16:Int)))<64) <|
  gd (qAe (i - (7:Int))) <|
  gd (0≤(i - (7:Int))∧(i - (7:Int))<((64:Nat):Int)) <|
  gd ((Int.toNat (i - (7:Int)))<64) <|
  gd (0≤(3:Int)) <|
  gd (0≤(10:Int)) <|
  (zae_s ((nrm 64 w_v).getD (Int.toNat (i - (15:Int))) 0) (-7:Int)).bind fun r160 =>
  (zae_s ((nrm 64 w_v).getD (Int.toNat (i - (15:Int))) 0) (-18:Int)).bind fun r161 =>
  (zae_s ((nrm 64 w_v).getD (Int.toNat (i - (2:Int))) 0) (-17:Int)).bind fun r162 =>
  (zae_s ((nrm 64 w_v).getD (Int.toNat (i - (2:Int))) 0) (-19:Int)).bind fun r163 =>
  gd (0≤i∧i<((64:Nat):Int)) <|
  gd ((Int.toNat i)<64) <|
  gd (qAe (i+(1:Int))) <|
  some (.inl ((i+(1:Int)),((nrm 64 w_v).set (Int.toNat i) ((((((((nrm 64 w_v).getD (Int.toNat (i - (16:Int))) 0)+((nrm 64 w_v).getD (Int.toNat (i - (7:Int))) 0)) % 4294967296)+(qAf .u32 (qAf .u32 r160 r161) (((nrm 64 w_v).getD (Int.toNat (i - (15:Int))) 0) / 8))) % 4294967296)+(qAf .u32 (qAf .u32 r162 r163) (((nrm 64 w_v).getD (Int.toNat (i - (2:Int))) 0) / 1024))) % 4294967296)))))
 else (
  some (.inr w_v))
def zal_p1 (i:Int) (w_v:List Int):Option ((List Int)) :=
 qAp (fun x:(Int × (List Int))=>qEj x.1 x.2) (i,w_v)
def qEk (a b c d e f g h x136_:Int) (w_v:List Int):Option ((Int × Int × Int × Int × Int × Int × Int × Int × Int) ⊕ (Int × Int × Int × Int × Int × Int × Int × Int)) :=
 bif decide (x136_<(64:Int)) then (
  gd (0≤x136_∧x136_<((64:Nat):Int)) <|
  gd (((0)+(Int.toNat x136_)*1)<shaK256.length) <|
  gd (0≤x136_∧x136_<((64:Nat):Int)) <|
  gd ((Int.toNat x136_)<64) <|
  (zae_s e (-6:Int)).bind fun r165 =>
  (zae_s e (-11:Int)).bind fun r166 =>
  (zae_s e (-25:Int)).bind fun r167 =>
  (zae_s a (-2:Int)).bind fun r168 =>
  (zae_s a (-13:Int)).bind fun r169 =>
  (zae_s a (-22:Int)).bind fun r170 =>
  gd (qAe (x136_+(1:Int))) <|
  some (.inl (((((((((((h+(qAf .u32 (qAf .u32 r165 r166) r167)) % 4294967296)+(qAf .u32 g (qAd .u32 e (qAf .u32 f g)))) % 4294967296)+(shaK256.getD ((0)+(Int.toNat x136_)*1) 0)) % 4294967296)+((nrm 64 w_v).getD (Int.toNat x136_) 0)) % 4294967296)+(((qAf .u32 (qAf .u32 r168 r169) r170)+(qA6 .u32 (qAd .u32 a b) (qAd .u32 c (qA6 .u32 a b)))) % 4294967296)) % 4294967296),a,b,c,((d+((((((((h+(qAf .u32 (qAf .u32 r165 r166) r167)) % 4294967296)+(qAf .u32 g (qAd .u32 e (qAf .u32 f g)))) % 4294967296)+(shaK256.getD ((0)+(Int.toNat x136_)*1) 0)) % 4294967296)+((nrm 64 w_v).getD (Int.toNat x136_) 0)) % 4294967296)) % 4294967296),e,f,g,(x136_+(1:Int)))))
 else (
  some (.inr (a,b,c,d,e,f,g,h)))
def zal_p2 (a b c d e f g h x136_:Int) (w_v:List Int):Option (Int × Int × Int × Int × Int × Int × Int × Int) :=
 qAp (fun x:(Int × Int × Int × Int × Int × Int × Int × Int × Int)=>qEk x.1 x.2.1 x.2.2.1 x.2.2.2.1 x.2.2.2.2.1 x.2.2.2.2.2.1 x.2.2.2.2.2.2.1 x.2.2.2.2.2.2.2.1 x.2.2.2.2.2.2.2.2 w_v) (a,b,c,d,e,f,g,h,x136_)
def qEl (x2040_ x2041_ x2042_ x2043_ x2044_ x2045_ x2046_ x2047_ x205_:Int) (s_short:List Int):Option ((Int × (List Int)) ⊕ ((List Int))) :=
 bif decide (x205_<(8:Int)) then (
  gd (0≤x205_∧x205_<((8:Nat):Int)) <|
  gd (0≤x205_∧x205_<((8:Nat):Int)) <|
  gd ((Int.toNat x205_)<8) <|
  gd (0≤x205_∧x205_<((8:Nat):Int)) <|
  gd ((Int.toNat x205_)<8) <|
  gd (qAe (x205_+(1:Int))) <|
  some (.inl ((x205_+(1:Int)),((nrm 8 s_short).set (Int.toNat x205_) ((((nrm 8 s_short).getD (Int.toNat x205_) 0)+((nrm 8 ([x2040_,x2041_,x2042_,x2043_,x2044_,x2045_,x2046_,x2047_]:List Int)).getD (Int.toNat x205_) 0)) % 4294967296)))))
 else (
  some (.inr s_short))
def zal_p3 (x2040_ x2041_ x2042_ x2043_ x2044_ x2045_ x2046_ x2047_ x205_:Int) (s_short:List Int):Option ((List Int)) :=
 qAp (fun x:(Int × (List Int))=>qEl x2040_ x2041_ x2042_ x2043_ x2044_ x2045_ x2046_ x2047_ x.1 x.2) (x205_,s_short)
def zal_s (s:qFp):Option qFp :=
 (zal_p0 (0:Int) (nrm 128 s.rest) (nrm 64 ([]:List Int))).bind fun o159 =>
 (zal_p1 (16:Int) (nrm 64 o159)).bind fun o164 =>
 (zal_p2 ((nrm 8 (nrm 8 s.short)).getD 0 0) ((nrm 8 (nrm 8 s.short)).getD 1 0) ((nrm 8 (nrm 8 s.short)).getD 2 0) ((nrm 8 (nrm 8 s.short)).getD 3 0) ((nrm 8 (nrm 8 s.short)).getD 4 0) ((nrm 8 (nrm 8 s.short)).getD 5 0) ((nrm 8 (nrm 8 s.short)).getD 6 0) ((nrm 8 (nrm 8 s.short)).getD 7 0) (0:Int) (nrm 64 o164)).bind fun o171 =>
 (zal_p3 o171.1 o171.2.1 o171.2.2.1 o171.2.2.2.1 o171.2.2.2.2.1 o171.2.2.2.2.2.1 o171.2.2.2.2.2.2.1 o171.2.2.2.2.2.2.2 (0:Int) (nrm 8 (nrm 8 (nrm 8 (nrm 8 s.short))))).bind fun o172 =>
 some (⟨s.hash,o172,(nrm 8 (nrm 8 (nrm 8 (nrm 8 s.long)))),(nrm 128 (nrm 128 (nrm 128 (nrm 128 s.rest)))),s.n⟩:qFp)
def zal_G:Nat→Option CQ:=tblQ [(72,zae_w)]
def zDHA1:=(qCa 86 (qAa dZ (dSpr .u32 8 (dSpr .u64 8 (dSpr .u8 128 (qAa (dI .u64) dNil))))))
def zDHA4:=(qAa zDHA1 (qAa (qCa 88 (dSpr .u32 64 dNil)) dNil))
def zal_d0:=(dQS (qAa (dSO 0 (dH 0 0)) (qAa (dSO 2 (dH 1 0)) (qAa (dSO 21 dZ) dNil))) zDHA4)
def zal_l0:SubQ:=mkL zal_d0 (fun x=>zal_p0 x.1.2.2.1 x.2.1.2.2.2.1 x.2.2.1.1) fun x r R kn kx kr=>kx 0 ⟨[sL 0 (.hd 0 0),sL 2 (.hd 1 0)],[],[.cells 86 ([.vI x.2.1.1]++(spr .u32 8 x.2.1.2.1++(spr .u64 8 x.2.1.2.2.1++(spr .u8 128 x.2.1.2.2.2.1++([.val (.int .u64 x.2.1.2.2.2.2.1)]))))),.cells 88 (spr .u32 64 r)]⟩
def zal_d1:=(dQS (qAa (dSO 0 (dH 0 0)) (qAa (dSO 2 (dH 1 0)) (qAa (dSO 5 dZ) dNil))) zDHA4)
def zal_l1:SubQ:=mkL zal_d1 (fun x=>zal_p1 x.1.2.2.1 x.2.2.1.1) fun x r R kn kx kr=>kx 2 ⟨[sL 0 (.hd 0 0),sL 2 (.hd 1 0)],[],[.cells 86 ([.vI x.2.1.1]++(spr .u32 8 x.2.1.2.1++(spr .u64 8 x.2.1.2.2.1++(spr .u8 128 x.2.1.2.2.2.1++([.val (.int .u64 x.2.1.2.2.2.2.1)]))))),.cells 88 (spr .u32 64 r)]⟩
def zal_d2:=(dQS (qAa (dSO 0 (dH 0 0)) (qAa (dSO 2 (dH 1 0)) (qAa (dSO 8 (dI .u32)) (qAa (dSO 9 (dI .u32)) (qAa (dSO 10 (dI .u32)) (qAa (dSO 11 (dI .u32)) (qAa (dSO 12 (dI .u32)) (qAa (dSO 13 (dI .u32)) (qAa (dSO 14 (dI .u32)) (qAa (dSO 15 (dI .u32)) (qAa (dSO 136 dZ) dNil))))))))))) zDHA4)
def zal_l2:SubQ:=mkL zal_d2 (fun x=>zal_p2 x.1.2.2.1 x.1.2.2.2.1 x.1.2.2.2.2.1 x.1.2.2.2.2.2.1 x.1.2.2.2.2.2.2.1 x.1.2.2.2.2.2.2.2.1 x.1.2.2.2.2.2.2.2.2.1 x.1.2.2.2.2.2.2.2.2.2.1 x.1.2.2.2.2.2.2.2.2.2.2.1 x.2.2.1.1) fun x r R kn kx kr=>kx 4 ⟨[sL 0 (.hd 0 0),(8,[],.c (.o (.val (.int .u32 r.1)))),(9,[],.c (.o (.val (.int .u32 r.2.1)))),(10,[],.c (.o (.val (.int .u32 r.2.2.1)))),(11,[],.c (.o (.val (.int .u32 r.2.2.2.1)))),(12,[],.c (.o (.val (.int .u32 r.2.2.2.2.1)))),(13,[],.c (.o (.val (.int .u32 r.2.2.2.2.2.1)))),(14,[],.c (.o (.val (.int .u32 r.2.2.2.2.2.2.1)))),(15,[],.c (.o (.val (.int .u32 r.2.2.2.2.2.2.2))))],[],[.cells 86 ([.vI x.2.1.1]++(spr .u32 8 x.2.1.2.1++(spr .u64 8 x.2.1.2.2.1++(spr .u8 128 x.2.1.2.2.2.1++([.val (.int .u64 x.2.1.2.2.2.2.1)])))))]⟩
def zal_d3:=(dQS (qAa (dSO 0 (dH 0 0)) (qAa (dSl 204 (dVC (dCA (qAa (dI .u32) (qAa (dI .u32) (qAa (dI .u32) (qAa (dI .u32) (qAa (dI .u32) (qAa (dI .u32) (qAa (dI .u32) (qAa (dI .u32) dNil))))))))))) (qAa (dSO 205 dZ) dNil))) (qAa zDHA1 dNil))
def zal_l3:SubQ:=mkL zal_d3 (fun x=>zal_p3 x.1.2.1.1 x.1.2.1.2.1 x.1.2.1.2.2.1 x.1.2.1.2.2.2.1 x.1.2.1.2.2.2.2.1 x.1.2.1.2.2.2.2.2.1 x.1.2.1.2.2.2.2.2.2.1 x.1.2.1.2.2.2.2.2.2.2.1 x.1.2.2.1 x.2.1.2.1) fun x r R kn kx kr=>kx 6 ⟨[],[],[.cells 86 ([.vI x.2.1.1]++(spr .u32 8 r++(spr .u64 8 x.2.1.2.2.1++(spr .u8 128 x.2.1.2.2.2.1++([.val (.int .u64 x.2.1.2.2.2.2.1)])))))]⟩
def zal_L:Nat→SubQ:=tblL [(0,zal_l0),(1,zal_l1),(2,zal_l2),(3,zal_l3)]
theorem zal_sub0:qBm zal_L zal_G 1 206 221 0 zal_b0:=qAq (show zal_L 0=zal_l0 from by kernel_rfl) fun x R kn kx kr=>qAi (step:=fun y=>qEi y.1 x.2.1.2.2.2.1 y.2) (enc:=fun (y:Int × (List Int))=>zal_d0.e ((x.1.1,x.1.2.1,y.1,x.1.2.2.2),(x.2.1,(y.2,x.2.2.1.2),x.2.2.2))) (fun y=>by kernel_rfl) (fun y ki=>by simp only [qEi,-eq_self,sZ]; kernel_rfl) (x.1.2.2.1,x.2.2.1.1)
theorem zal_sub1:qBm zal_L zal_G 1 206 221 1 zal_b1:=qAq (show zal_L 1=zal_l1 from by kernel_rfl) fun x R kn kx kr=>qAi (step:=fun y=>qEj y.1 y.2) (enc:=fun (y:Int × (List Int))=>zal_d1.e ((x.1.1,x.1.2.1,y.1,x.1.2.2.2),(x.2.1,(y.2,x.2.2.1.2),x.2.2.2))) (fun y=>by kernel_rfl) (fun y ki=>by simp only [qEj,-eq_self,sZ]; kernel_rfl) (x.1.2.2.1,x.2.2.1.1)
theorem zal_sub2:qBm zal_L zal_G 1 206 221 2 zal_b2:=qAq (show zal_L 2=zal_l2 from by kernel_rfl) fun x R kn kx kr=>qAi (step:=fun y=>qEk y.1 y.2.1 y.2.2.1 y.2.2.2.1 y.2.2.2.2.1 y.2.2.2.2.2.1 y.2.2.2.2.2.2.1 y.2.2.2.2.2.2.2.1 y.2.2.2.2.2.2.2.2 x.2.2.1.1) (enc:=fun (y:Int × Int × Int × Int × Int × Int × Int × Int × Int)=>zal_d2.e ((x.1.1,x.1.2.1,y.1,y.2.1,y.2.2.1,y.2.2.2.1,y.2.2.2.2.1,y.2.2.2.2.2.1,y.2.2.2.2.2.2.1,y.2.2.2.2.2.2.2.1,y.2.2.2.2.2.2.2.2,x.1.2.2.2.2.2.2.2.2.2.2.2),x.2)) (fun y=>by kernel_rfl) (fun y ki=>by simp only [qEk,-eq_self,sZ]; kernel_rfl) (x.1.2.2.1,x.1.2.2.2.1,x.1.2.2.2.2.1,x.1.2.2.2.2.2.1,x.1.2.2.2.2.2.2.1,x.1.2.2.2.2.2.2.2.1,x.1.2.2.2.2.2.2.2.2.1,x.1.2.2.2.2.2.2.2.2.2.1,x.1.2.2.2.2.2.2.2.2.2.2.1)
theorem zal_sub3:qBm zal_L zal_G 1 206 221 3 zal_b3:=qAq (show zal_L 3=zal_l3 from by kernel_rfl) fun x R kn kx kr=>qAi (step:=fun y=>qEl x.1.2.1.1 x.1.2.1.2.1 x.1.2.1.2.2.1 x.1.2.1.2.2.2.1 x.1.2.1.2.2.2.2.1 x.1.2.1.2.2.2.2.2.1 x.1.2.1.2.2.2.2.2.2.1 x.1.2.1.2.2.2.2.2.2.2.1 y.1 y.2) (enc:=fun (y:Int × (List Int))=>zal_d3.e ((x.1.1,x.1.2.1,y.1,x.1.2.2.2),((x.2.1.1,y.2,x.2.1.2.2),x.2.2))) (fun y=>by kernel_rfl) (fun y ki=>by simp only [qEl,-eq_self,sZ]; kernel_rfl) (x.1.2.2.1,x.2.1.2.1)
def zYHA0 (y:dTy (qAa zDHA1 dNil)):qFp:=(⟨y.1.1,y.1.2.1,y.1.2.2.1,y.1.2.2.2.1,y.1.2.2.2.2.1⟩:qFp)
def zal_c:CS:=mkC (qAa (dVC (dCO (dH 0 0))) dNil) (qAa zDHA1 dNil) (fun x y=>zal_s (zYHA0 y)) (fun x y r=>.tup []) fun x y r=>[.cells 86 ([.vI r.hash]++(spr .u32 8 r.short++(spr .u64 8 r.long++(spr .u8 128 r.rest++([.val (.int .u64 r.n)])))))]
theorem zal_val:qA0 Tryd.prog 65 zal_c:=vl1 zal_q [] 221 206 1 (show qBt zal_L zal_G 1 206 221 [(0,zal_b0),(1,zal_b1),(2,zal_b2),(3,zal_b3)] from ⟨zal_sub0,zal_sub1,zal_sub2,zal_sub3,tV⟩) (qBv ⟨zae_ok,tV⟩) fun x y=>by
 simp only [zal_s,-eq_self,sZ];kernel_rfl
def zal_w:CQ:=liftQ [true] zal_c
theorem zal_ok:qAm Tryd.prog 65 zal_w:=liftQ_valid zal_val
def zaf_q:IQ:=(.seq (rg 4 [oP 4 (.mv (.v (.int .u64 0)))]) (.seq (rg 5 [oM 6 t1,oP 7 (.conv false .u64 t6),oP 8 (.bi .and t7 (.v (.int .u64 63))),oM 5 t8]) (.seq (rg 4 [oM 9 t0,oM 10 t5,oP 11 (.bi .shl t9 t10),oM 12 t0,oM 13 t5,oP 14 (.bi .sub (.v (.int .u64 64)) t13),oP 15 (.bi .shr t12 t14),oP 16 (.bi .or t11 t15),oM 4 t16]) (.cn [4] .ret))))
def zaf_s (x_ k_:Int):Option Int :=
 gd (0≤(qAd .u64 (k_ % 18446744073709551616) (63:Int))) <|
 gd (0≤(((64:Int) - (qAd .u64 (k_ % 18446744073709551616) (63:Int))) % 18446744073709551616)) <|
 some (qA6 .u64 ((x_*2 ^ (min (Int.toNat (qAd .u64 (k_ % 18446744073709551616) (63:Int))) (IntKind.bits .u64))) % 18446744073709551616) (x_ / 2 ^ (min (Int.toNat (((64:Int) - (qAd .u64 (k_ % 18446744073709551616) (63:Int))) % 18446744073709551616)) (IntKind.bits .u64))))
def zaf_c:CS:=mkC (qAa (dVC (dCO (dI .u64))) (qAa (dVC (dCO dZ)) dNil)) dNil (fun x y=>zaf_s x.1 x.2.1) (fun x y r=>.c (.o (.val (.int .u64 r)))) fun x y r=>[]
theorem zaf_val:qA0 Tryd.prog 73 zaf_c:=vl0 zaf_q [.tmp 4] 17 6 0 [] trivial fun x y=>by
 simp only [zaf_s,-eq_self,sZ];kernel_rfl
def zaf_w:CQ:=liftV [] zaf_c
theorem zaf_ok:qAm Tryd.prog 73 zaf_w:=qBf zaf_val
def zam_b1:IQ:=(.loop [0,2,3,22,33,34,35] (.seq (rg 36 [oP 36 (.bi .lss t35 t34)]) (.seq (.cond t36 .skip (.cn [0,2,22] (.exit 2))) (.seq (.block 3 (.seq (rg 5 [oP 37 (.iaddr 1 t33 t35),oP 38 (.load none t37),oM 5 t38]) (rg 0 [oM 39 t3,oM 40 t3,oP 41 (.ext (.pidx 80 1) [t2,t40]),oP 42 (.load none t41),oP 43 (.bi .shl t42 (.v (.int .u64 8))),oM 44 t5,oP 45 (.conv false .u64 t44),oP 46 (.bi .or t43 t45),oP 47 (.ext (.pidx 80 1) [t2,t39]),oN (.store 1 t47 t46)]))) (rg 35 [oP 48 (.bi .add t35 (vI 1)),oM 35 t48])))))
def zam_b0:IQ:=(.loop [0,2,22] (.seq (rg 23 [oP 23 (.bi .lss t22 (vI 16))]) (.seq (.cond t23 .skip (.cn [0,2] (.exit 0))) (.seq (.block 1 (.seq (rg 3 [oM 24 t22,oM 3 t24]) (.seq (rg 35 [oM 25 t0,oP 26 (.nk t25),oP 27 (.faddr 17 t26),oM 28 t3,oP 29 (.bi .mul (vI 8) t28),oM 30 t3,oP 31 (.bi .mul (vI 8) t30),oP 32 (.bi .add t31 (vI 8)),oP 33 (.ext (.asub 128) [t27,t29,t32]),oP 34 (.len t33),oP 35 (.mv (vI 0))]) (.block 2 (.cn [0,2,3,22,33,34,35] (.sub 1 zam_b1)))))) (rg 22 [oP 49 (.bi .add t22 (vI 1)),oM 22 t49])))))
def zam_b2:IQ:=(.loop [0,2,6] (.seq (.seq (rg 51 [oM 50 t6,oP 51 (.bi .lss t50 (vI 80))]) (.cond t51 .skip (.cn [0,2] (.exit 4)))) (.seq (.block 5 (.seq (.reg 8 (some [0,1,2,3,4,5,6,7,8,9]) [oM 54 t6,oP 55 (.bi .sub t54 (vI 15)),oP 56 (.ext (.pidx 80 1) [t2,t55]),oP 57 (.load none t56),oM 58 t6,oP 59 (.bi .sub t58 (vI 2)),oP 60 (.ext (.pidx 80 1) [t2,t59]),oP 61 (.load none t60),oM 7 t57,oM 8 t61]) (.reg 0 (some [0,1,2,3,4,5,6,7,8,9,10,12,15,16,19,21,24,25,11,13,14,17,18,20,22,23,26,27,28,29]) [oM 62 t6,oM 63 t6,oP 64 (.bi .sub t63 (vI 16)),oP 65 (.ext (.pidx 80 1) [t2,t64]),oP 66 (.load none t65),oM 67 t6,oP 68 (.bi .sub t67 (vI 7)),oP 69 (.ext (.pidx 80 1) [t2,t68]),oP 70 (.load none t69),oP 71 (.bi .add t66 t70),oM 72 t7,oM 74 t7,oM 77 t7,oP 78 (.bi .shr t77 (.v (.int .u64 7))),oM 81 t8,oM 83 t8,oM 86 t8,oP 87 (.bi .shr t86 (.v (.int .u64 6))),oP 73 (.call 73 [t72,(.v (.int .i64 (-1)))]),oP 75 (.call 73 [t74,(.v (.int .i64 (-8)))]),oP 76 (.bi .xor t73 t75),oP 79 (.bi .xor t76 t78),oP 80 (.bi .add t71 t79),oP 82 (.call 73 [t81,(.v (.int .i64 (-19)))]),oP 84 (.call 73 [t83,(.v (.int .i64 (-61)))]),oP 85 (.bi .xor t82 t84),oP 88 (.bi .xor t85 t87),oP 89 (.bi .add t80 t88),oP 90 (.ext (.pidx 80 1) [t2,t62]),oN (.store 1 t90 t89)]))) (rg 6 [oM 52 t6,oP 53 (.bi .add t52 (vI 1)),oM 6 t53]))))
def zam_b3:IQ:=(.loop [0,2,9,10,11,12,13,14,15,16,131] (.seq (rg 132 [oP 132 (.bi .lss t131 (vI 80))]) (.seq (.cond t132 .skip (.cn [0,9,10,11,12,13,14,15,16] (.exit 6))) (.seq (.block 7 (.seq (rg 17 [oM 133 t131,oM 17 t133]) (.seq (.reg 18 (some [0,1,3,6,10,11,12,13,14,15,16,18,19,20,22,23,24,2,4,5,7,8,9,17,21,25,26]) [oM 134 t16,oM 135 t13,oM 137 t13,oM 140 t13,oM 144 t15,oM 145 t13,oM 146 t14,oM 147 t15,oP 148 (.bi .xor t146 t147),oP 149 (.bi .and t145 t148),oP 150 (.bi .xor t144 t149),oM 152 t17,oP 153 (.ext (.pidx 80 1) [(.v (.pointer (some ⟨9,0,none⟩))),t152]),oP 154 (.load none t153),oM 156 t17,oP 157 (.ext (.pidx 80 1) [t2,t156]),oP 158 (.load none t157),oP 136 (.call 73 [t135,(.v (.int .i64 (-14)))]),oP 138 (.call 73 [t137,(.v (.int .i64 (-18)))]),oP 139 (.bi .xor t136 t138),oP 141 (.call 73 [t140,(.v (.int .i64 (-41)))]),oP 142 (.bi .xor t139 t141),oP 143 (.bi .add t134 t142),oP 151 (.bi .add t143 t150),oP 155 (.bi .add t151 t154),oP 159 (.bi .add t155 t158),oM 18 t159]) (.seq (rg 19 [oM 160 t9,oP 161 (.call 73 [t160,(.v (.int .i64 (-28)))]),oM 162 t9,oP 163 (.call 73 [t162,(.v (.int .i64 (-34)))]),oP 164 (.bi .xor t161 t163),oM 165 t9,oP 166 (.call 73 [t165,(.v (.int .i64 (-39)))]),oP 167 (.bi .xor t164 t166),oM 168 t9,oM 169 t10,oP 170 (.bi .and t168 t169),oM 171 t11,oM 172 t9,oM 173 t10,oP 174 (.bi .or t172 t173),oP 175 (.bi .and t171 t174),oP 176 (.bi .or t170 t175),oP 177 (.bi .add t167 t176),oM 19 t177]) (rg 9 [oM 178 t15,oM 179 t14,oM 180 t13,oM 181 t12,oM 182 t18,oP 183 (.bi .add t181 t182),oM 184 t11,oM 185 t10,oM 186 t9,oM 187 t18,oM 188 t19,oP 189 (.bi .add t187 t188),oM 16 t178,oM 15 t179,oM 14 t180,oM 13 t183,oM 12 t184,oM 11 t185,oM 10 t186,oM 9 t189]))))) (rg 131 [oP 190 (.bi .add t131 (vI 1)),oM 131 t190])))))
def zam_b4:IQ:=(.loop [0,199,200] (.seq (rg 201 [oP 201 (.bi .lss t200 (vI 8))]) (.seq (.cond t201 .skip (.cn [] (.exit 8))) (.seq (.block 9 (.seq (rg 21 [oM 202 t200,oP 203 (.ext (.aix 8) [t199,t200]),oM 20 t202,oM 21 t203]) (.reg 0 (some [0,1,2,3,4,5,6,7,8,9,10,11]) [oM 204 t0,oM 205 t20,oP 206 (.nk t204),oP 207 (.faddr 9 t206),oP 208 (.ext (.pidx 8 1) [t207,t205]),oP 209 (.load none t208),oM 210 t21,oP 211 (.bi .add t209 t210),oP 212 (.nk t204),oP 213 (.faddr 9 t212),oP 214 (.ext (.pidx 8 1) [t213,t205]),oN (.store 1 t214 t211)]))) (rg 200 [oP 215 (.bi .add t200 (vI 1)),oM 200 t215])))))
def zam_q:IQ:=(.join [] [] (.seq (rg 2 [oP 2 (.alloc 90 (List.replicate 80 (.int .u64 0)))]) (.seq (.seq (rg 22 [oP 22 (.mv (vI 0))]) (.block 0 (.cn [0,2,22] (.sub 0 zam_b0)))) (.seq (.seq (rg 6 [oP 6 (.mv (vI 16))]) (.block 4 (.cn [0,2,6] (.sub 2 zam_b2)))) (.seq (.reg 16 (some [0,1,2,3,4,5,6,7,8,9,10,11,12,13,14,15,16,17,18,19,20,21,22,23,24,25,26,27,28,29,30,31,32,33,34,35,36,37,38,39,40,41,42,43,44,45,46,47]) [oM 91 t0,oP 92 (.nk t91),oP 93 (.faddr 9 t92),oP 94 (.faddr 0 t93),oP 95 (.load none t94),oM 96 t0,oP 97 (.nk t96),oP 98 (.faddr 9 t97),oP 99 (.faddr 1 t98),oP 100 (.load none t99),oM 101 t0,oP 102 (.nk t101),oP 103 (.faddr 9 t102),oP 104 (.faddr 2 t103),oP 105 (.load none t104),oM 106 t0,oP 107 (.nk t106),oP 108 (.faddr 9 t107),oP 109 (.faddr 3 t108),oP 110 (.load none t109),oM 111 t0,oP 112 (.nk t111),oP 113 (.faddr 9 t112),oP 114 (.faddr 4 t113),oP 115 (.load none t114),oM 116 t0,oP 117 (.nk t116),oP 118 (.faddr 9 t117),oP 119 (.faddr 5 t118),oP 120 (.load none t119),oM 121 t0,oP 122 (.nk t121),oP 123 (.faddr 9 t122),oP 124 (.faddr 6 t123),oP 125 (.load none t124),oM 126 t0,oP 127 (.nk t126),oP 128 (.faddr 9 t127),oP 129 (.faddr 7 t128),oP 130 (.load none t129),oM 9 t95,oM 10 t100,oM 11 t105,oM 12 t110,oM 13 t115,oM 14 t120,oM 15 t125,oM 16 t130]) (.seq (.seq (rg 131 [oP 131 (.mv (vI 0))]) (.block 6 (.cn [0,2,9,10,11,12,13,14,15,16,131] (.sub 3 zam_b3)))) (.seq (rg 200 [oM 191 t9,oM 192 t10,oM 193 t11,oM 194 t12,oM 195 t13,oM 196 t14,oM 197 t15,oM 198 t16,oP 199 (.build [.int .u64 0,.int .u64 0,.int .u64 0,.int .u64 0,.int .u64 0,.int .u64 0,.int .u64 0,.int .u64 0] [(0,1,t191),(1,1,t192),(2,1,t193),(3,1,t194),(4,1,t195),(5,1,t196),(6,1,t197),(7,1,t198)]),oP 200 (.mv (vI 0))]) (.block 8 (.cn [0,199,200] (.sub 4 zam_b4))))))))))
def qEm (i:Int) (x33_lo x33_n:Nat) (x34_ x35_:Int) (s_rest w_v:List Int):Option ((Int × (List Int)) ⊕ ((List Int))) :=
 bif decide (x35_<x34_) then (
  gd (0≤x35_∧x35_<((x33_n:Nat):Int)∧x33_lo+x33_n≤128) <|
  gd ((x33_lo+Int.toNat x35_)<128) <|
  gd (0≤i∧i<((80:Nat):Int)) <|
  gd ((Int.toNat i)<80) <|
  gd (0≤(8:Int)) <|
  gd (0≤i∧i<((80:Nat):Int)) <|
  gd ((Int.toNat i)<80) <|
  gd (qAe (x35_+(1:Int))) <|
  some (.inl ((x35_+(1:Int)),((nrm 80 w_v).set (Int.toNat i) (qA6 .u64 ((((nrm 80 w_v).getD (Int.toNat i) 0)*256) % 18446744073709551616) (((nrm 128 s_rest).getD (x33_lo+Int.toNat x35_) 0) % 18446744073709551616))))))
 else (
  some (.inr w_v))
def zam_p1 (i:Int) (x33_lo x33_n:Nat) (x34_ x35_:Int) (s_rest w_v:List Int):Option ((List Int)) :=
 qAp (fun x:(Int × (List Int))=>qEm i x33_lo x33_n x34_ x.1 s_rest x.2) (x35_,w_v)
def qC9 (x22_:Int) (s_short s_long s_rest w_v:List Int):Option ((Int × (List Int) × (List Int) × (List Int) × (List Int)) ⊕ ((List Int) × (List Int) × (List Int) × (List Int))) :=
 bif decide (x22_<(16:Int)) then (
  gd (qAe ((8:Int)*x22_)) <|
  gd (qAe ((8:Int)*x22_)) <|
  gd (qAe (((8:Int)*x22_)+(8:Int))) <|
  gd (0≤((8:Int)*x22_)∧((8:Int)*x22_)≤(((8:Int)*x22_)+(8:Int))∧(((8:Int)*x22_)+(8:Int))≤((128:Nat):Int)) <|
  (zam_p1 x22_ (Int.toNat ((8:Int)*x22_)) ((Int.toNat (((8:Int)*x22_)+(8:Int))) - (Int.toNat ((8:Int)*x22_))) ((((Int.toNat (((8:Int)*x22_)+(8:Int))) - (Int.toNat ((8:Int)*x22_))):Nat):Int) (0:Int) (nrm 128 s_rest) (nrm 80 w_v)).bind fun o178 =>
  gd (qAe (x22_+(1:Int))) <|
  some (.inl ((x22_+(1:Int)),(nrm 8 s_short),(nrm 8 s_long),(nrm 128 s_rest),o178)))
 else (
  some (.inr (s_short,s_long,s_rest,w_v)))
def zam_p0 (x22_:Int) (s_short s_long s_rest w_v:List Int):Option ((List Int) × (List Int) × (List Int) × (List Int)) :=
 qAp (fun x:(Int × (List Int) × (List Int) × (List Int) × (List Int))=>qC9 x.1 x.2.1 x.2.2.1 x.2.2.2.1 x.2.2.2.2) (x22_,s_short,s_long,s_rest,w_v)
def qEn (i:Int) (w_v:List Int):Option ((Int × (List Int)) ⊕ ((List Int))) :=
 bif decide (i<(80:Int)) then (
  gd (qAe (i - (15:Int))) <|
  gd (0≤(i - (15:Int))∧(i - (15:Int))<((80:Nat):Int)) <|
  gd ((Int.toNat (i - (15:Int)))<80) <|
  gd (qAe (i - (2:Int))) <|
  gd (0≤(i - (2:Int))∧(i - (2:Int))<((80:Nat):Int)) <|
  gd ((Int.toNat (i - (2:Int)))<80) <|
  gd (qAe (i - (16:Int))) <|
  gd (0≤(i - (16:Int))∧(i - (16:Int))<((80:Nat):Int)) <|
  gd ((Int.toNat (i - (16:Int)))<80) <|
  gd (qAe (i - (7:Int))) <|
  gd (0≤(i - (7:Int))∧(i - (7:Int))<((80:Nat):Int)) <|
  gd ((Int.toNat (i - (7:Int)))<80) <|
  gd (0≤(7:Int)) <|
  gd (0≤(6:Int)) <|
  (zaf_s ((nrm 80 w_v).getD (Int.toNat (i - (15:Int))) 0) (-1:Int)).bind fun r180 =>
  (zaf_s ((nrm 80 w_v).getD (Int.toNat (i - (15:Int))) 0) (-8:Int)).bind fun r181 =>
  (zaf_s ((nrm 80 w_v).getD (Int.toNat (i - (2:Int))) 0) (-19:Int)).bind fun r182 =>
  (zaf_s ((nrm 80 w_v).getD (Int.toNat (i - (2:Int))) 0) (-61:Int)).bind fun r183 =>
  gd (0≤i∧i<((80:Nat):Int)) <|
  gd ((Int.toNat i)<80) <|
  gd (qAe (i+(1:Int))) <|
  some (.inl ((i+(1:Int)),((nrm 80 w_v).set (Int.toNat i) ((((((((nrm 80 w_v).getD (Int.toNat (i - (16:Int))) 0)+((nrm 80 w_v).getD (Int.toNat (i - (7:Int))) 0)) % 18446744073709551616)+(qAf .u64 (qAf .u64 r180 r181) (((nrm 80 w_v).getD (Int.toNat (i - (15:Int))) 0) / 128))) % 18446744073709551616)+(qAf .u64 (qAf .u64 r182 r183) (((nrm 80 w_v).getD (Int.toNat (i - (2:Int))) 0) / 64))) % 18446744073709551616)))))
 else (
  some (.inr w_v))
def zam_p2 (i:Int) (w_v:List Int):Option ((List Int)) :=
 qAp (fun x:(Int × (List Int))=>qEn x.1 x.2) (i,w_v)
def qEo (a b c d e f g h x131_:Int) (w_v:List Int):Option ((Int × Int × Int × Int × Int × Int × Int × Int × Int) ⊕ (Int × Int × Int × Int × Int × Int × Int × Int)) :=
 bif decide (x131_<(80:Int)) then (
  gd (0≤x131_∧x131_<((80:Nat):Int)) <|
  gd (((0)+(Int.toNat x131_)*1)<shaK512.length) <|
  gd (0≤x131_∧x131_<((80:Nat):Int)) <|
  gd ((Int.toNat x131_)<80) <|
  (zaf_s e (-14:Int)).bind fun r185 =>
  (zaf_s e (-18:Int)).bind fun r186 =>
  (zaf_s e (-41:Int)).bind fun r187 =>
  (zaf_s a (-28:Int)).bind fun r188 =>
  (zaf_s a (-34:Int)).bind fun r189 =>
  (zaf_s a (-39:Int)).bind fun r190 =>
  gd (qAe (x131_+(1:Int))) <|
  some (.inl (((((((((((h+(qAf .u64 (qAf .u64 r185 r186) r187)) % 18446744073709551616)+(qAf .u64 g (qAd .u64 e (qAf .u64 f g)))) % 18446744073709551616)+(shaK512.getD ((0)+(Int.toNat x131_)*1) 0)) % 18446744073709551616)+((nrm 80 w_v).getD (Int.toNat x131_) 0)) % 18446744073709551616)+(((qAf .u64 (qAf .u64 r188 r189) r190)+(qA6 .u64 (qAd .u64 a b) (qAd .u64 c (qA6 .u64 a b)))) % 18446744073709551616)) % 18446744073709551616),a,b,c,((d+((((((((h+(qAf .u64 (qAf .u64 r185 r186) r187)) % 18446744073709551616)+(qAf .u64 g (qAd .u64 e (qAf .u64 f g)))) % 18446744073709551616)+(shaK512.getD ((0)+(Int.toNat x131_)*1) 0)) % 18446744073709551616)+((nrm 80 w_v).getD (Int.toNat x131_) 0)) % 18446744073709551616)) % 18446744073709551616),e,f,g,(x131_+(1:Int)))))
 else (
  some (.inr (a,b,c,d,e,f,g,h)))
def zam_p3 (a b c d e f g h x131_:Int) (w_v:List Int):Option (Int × Int × Int × Int × Int × Int × Int × Int) :=
 qAp (fun x:(Int × Int × Int × Int × Int × Int × Int × Int × Int)=>qEo x.1 x.2.1 x.2.2.1 x.2.2.2.1 x.2.2.2.2.1 x.2.2.2.2.2.1 x.2.2.2.2.2.2.1 x.2.2.2.2.2.2.2.1 x.2.2.2.2.2.2.2.2 w_v) (a,b,c,d,e,f,g,h,x131_)
def qEp (x1990_ x1991_ x1992_ x1993_ x1994_ x1995_ x1996_ x1997_ x200_:Int) (s_long:List Int):Option ((Int × (List Int)) ⊕ ((List Int))) :=
 bif decide (x200_<(8:Int)) then (
  gd (0≤x200_∧x200_<((8:Nat):Int)) <|
  gd (0≤x200_∧x200_<((8:Nat):Int)) <|
  gd ((Int.toNat x200_)<8) <|
  gd (0≤x200_∧x200_<((8:Nat):Int)) <|
  gd ((Int.toNat x200_)<8) <|
  gd (qAe (x200_+(1:Int))) <|
  some (.inl ((x200_+(1:Int)),((nrm 8 s_long).set (Int.toNat x200_) ((((nrm 8 s_long).getD (Int.toNat x200_) 0)+((nrm 8 ([x1990_,x1991_,x1992_,x1993_,x1994_,x1995_,x1996_,x1997_]:List Int)).getD (Int.toNat x200_) 0)) % 18446744073709551616)))))
 else (
  some (.inr s_long))
def zam_p4 (x1990_ x1991_ x1992_ x1993_ x1994_ x1995_ x1996_ x1997_ x200_:Int) (s_long:List Int):Option ((List Int)) :=
 qAp (fun x:(Int × (List Int))=>qEp x1990_ x1991_ x1992_ x1993_ x1994_ x1995_ x1996_ x1997_ x.1 x.2) (x200_,s_long)
def zam_s (s:qFp):Option qFp :=
 (zam_p0 (0:Int) (nrm 8 s.short) (nrm 8 s.long) (nrm 128 s.rest) (nrm 80 ([]:List Int))).bind fun o179 =>
 (zam_p2 (16:Int) (nrm 80 o179.2.2.2)).bind fun o184 =>
 (zam_p3 ((nrm 8 o179.2.1).getD 0 0) ((nrm 8 o179.2.1).getD 1 0) ((nrm 8 o179.2.1).getD 2 0) ((nrm 8 o179.2.1).getD 3 0) ((nrm 8 o179.2.1).getD 4 0) ((nrm 8 o179.2.1).getD 5 0) ((nrm 8 o179.2.1).getD 6 0) ((nrm 8 o179.2.1).getD 7 0) (0:Int) (nrm 80 o184)).bind fun o191 =>
 (zam_p4 o191.1 o191.2.1 o191.2.2.1 o191.2.2.2.1 o191.2.2.2.2.1 o191.2.2.2.2.2.1 o191.2.2.2.2.2.2.1 o191.2.2.2.2.2.2.2 (0:Int) (nrm 8 (nrm 8 (nrm 8 o179.2.1)))).bind fun o192 =>
 some (⟨s.hash,(nrm 8 (nrm 8 (nrm 8 o179.1))),o192,(nrm 128 (nrm 128 (nrm 128 o179.2.2.1))),s.n⟩:qFp)
def zam_G:Nat→Option CQ:=tblQ [(73,zaf_w)]
def zDHA2:=(qAa zDHA1 (qAa (qCa 90 (dSpr .u64 80 dNil)) dNil))
def zam_d1:=(dQS (qAa (dSO 0 (dH 0 0)) (qAa (dSO 2 (dH 1 0)) (qAa (dSO 3 dZ) (qAa (dSO 22 dZ) (qAa (dSO 33 (dAsl 0 17 128)) (qAa (dSO 34 dZ) (qAa (dSO 35 dZ) dNil))))))) zDHA2)
def zam_l1:SubQ:=mkL zam_d1 (fun x=>zam_p1 x.1.2.2.1 x.1.2.2.2.2.1.1 x.1.2.2.2.2.1.2 x.1.2.2.2.2.2.1 x.1.2.2.2.2.2.2.1 x.2.1.2.2.2.1 x.2.2.1.1) fun x r R kn kx kr=>kx 2 ⟨[sL 0 (.hd 0 0),sL 2 (.hd 1 0),sL 22 (.vI x.1.2.2.2.1)],[],[.cells 86 ([.vI x.2.1.1]++(spr .u32 8 x.2.1.2.1++(spr .u64 8 x.2.1.2.2.1++(spr .u8 128 x.2.1.2.2.2.1++([.val (.int .u64 x.2.1.2.2.2.2.1)]))))),.cells 90 (spr .u64 80 r)]⟩
def zam_d0:=(dQS (qAa (dSO 0 (dH 0 0)) (qAa (dSO 2 (dH 1 0)) (qAa (dSO 22 dZ) dNil))) zDHA2)
def zam_l0:SubQ:=mkL zam_d0 (fun x=>zam_p0 x.1.2.2.1 x.2.1.2.1 x.2.1.2.2.1 x.2.1.2.2.2.1 x.2.2.1.1) fun x r R kn kx kr=>kx 0 ⟨[sL 0 (.hd 0 0),sL 2 (.hd 1 0)],[],[.cells 86 ([.vI x.2.1.1]++(spr .u32 8 r.1++(spr .u64 8 r.2.1++(spr .u8 128 r.2.2.1++([.val (.int .u64 x.2.1.2.2.2.2.1)]))))),.cells 90 (spr .u64 80 r.2.2.2)]⟩
def zam_d2:=(dQS (qAa (dSO 0 (dH 0 0)) (qAa (dSO 2 (dH 1 0)) (qAa (dSO 6 dZ) dNil))) zDHA2)
def zam_l2:SubQ:=mkL zam_d2 (fun x=>zam_p2 x.1.2.2.1 x.2.2.1.1) fun x r R kn kx kr=>kx 4 ⟨[sL 0 (.hd 0 0),sL 2 (.hd 1 0)],[],[.cells 86 ([.vI x.2.1.1]++(spr .u32 8 x.2.1.2.1++(spr .u64 8 x.2.1.2.2.1++(spr .u8 128 x.2.1.2.2.2.1++([.val (.int .u64 x.2.1.2.2.2.2.1)]))))),.cells 90 (spr .u64 80 r)]⟩
def zam_d3:=(dQS (qAa (dSO 0 (dH 0 0)) (qAa (dSO 2 (dH 1 0)) (qAa (dSO 9 (dI .u64)) (qAa (dSO 10 (dI .u64)) (qAa (dSO 11 (dI .u64)) (qAa (dSO 12 (dI .u64)) (qAa (dSO 13 (dI .u64)) (qAa (dSO 14 (dI .u64)) (qAa (dSO 15 (dI .u64)) (qAa (dSO 16 (dI .u64)) (qAa (dSO 131 dZ) dNil))))))))))) zDHA2)
def zam_l3:SubQ:=mkL zam_d3 (fun x=>zam_p3 x.1.2.2.1 x.1.2.2.2.1 x.1.2.2.2.2.1 x.1.2.2.2.2.2.1 x.1.2.2.2.2.2.2.1 x.1.2.2.2.2.2.2.2.1 x.1.2.2.2.2.2.2.2.2.1 x.1.2.2.2.2.2.2.2.2.2.1 x.1.2.2.2.2.2.2.2.2.2.2.1 x.2.2.1.1) fun x r R kn kx kr=>kx 6 ⟨[sL 0 (.hd 0 0),(9,[],.c (.o (.val (.int .u64 r.1)))),(10,[],.c (.o (.val (.int .u64 r.2.1)))),(11,[],.c (.o (.val (.int .u64 r.2.2.1)))),(12,[],.c (.o (.val (.int .u64 r.2.2.2.1)))),(13,[],.c (.o (.val (.int .u64 r.2.2.2.2.1)))),(14,[],.c (.o (.val (.int .u64 r.2.2.2.2.2.1)))),(15,[],.c (.o (.val (.int .u64 r.2.2.2.2.2.2.1)))),(16,[],.c (.o (.val (.int .u64 r.2.2.2.2.2.2.2))))],[],[.cells 86 ([.vI x.2.1.1]++(spr .u32 8 x.2.1.2.1++(spr .u64 8 x.2.1.2.2.1++(spr .u8 128 x.2.1.2.2.2.1++([.val (.int .u64 x.2.1.2.2.2.2.1)])))))]⟩
def zam_d4:=(dQS (qAa (dSO 0 (dH 0 0)) (qAa (dSl 199 (dVC (dCA (qAa (dI .u64) (qAa (dI .u64) (qAa (dI .u64) (qAa (dI .u64) (qAa (dI .u64) (qAa (dI .u64) (qAa (dI .u64) (qAa (dI .u64) dNil))))))))))) (qAa (dSO 200 dZ) dNil))) (qAa zDHA1 dNil))
def zam_l4:SubQ:=mkL zam_d4 (fun x=>zam_p4 x.1.2.1.1 x.1.2.1.2.1 x.1.2.1.2.2.1 x.1.2.1.2.2.2.1 x.1.2.1.2.2.2.2.1 x.1.2.1.2.2.2.2.2.1 x.1.2.1.2.2.2.2.2.2.1 x.1.2.1.2.2.2.2.2.2.2.1 x.1.2.2.1 x.2.1.2.2.1) fun x r R kn kx kr=>kx 8 ⟨[],[],[.cells 86 ([.vI x.2.1.1]++(spr .u32 8 x.2.1.2.1++(spr .u64 8 r++(spr .u8 128 x.2.1.2.2.2.1++([.val (.int .u64 x.2.1.2.2.2.2.1)])))))]⟩
def zam_L:Nat→SubQ:=tblL [(1,zam_l1),(0,zam_l0),(2,zam_l2),(3,zam_l3),(4,zam_l4)]
theorem zam_sub1:qBm zam_L zam_G 1 201 216 1 zam_b1:=qAq (show zam_L 1=zam_l1 from by kernel_rfl) fun x R kn kx kr=>qAi (step:=fun y=>qEm x.1.2.2.1 x.1.2.2.2.2.1.1 x.1.2.2.2.2.1.2 x.1.2.2.2.2.2.1 y.1 x.2.1.2.2.2.1 y.2) (enc:=fun (y:Int × (List Int))=>zam_d1.e ((x.1.1,x.1.2.1,x.1.2.2.1,x.1.2.2.2.1,x.1.2.2.2.2.1,x.1.2.2.2.2.2.1,y.1,x.1.2.2.2.2.2.2.2),(x.2.1,(y.2,x.2.2.1.2),x.2.2.2))) (fun y=>by kernel_rfl) (fun y ki=>by simp only [qEm,-eq_self,sZ]; kernel_rfl) (x.1.2.2.2.2.2.2.1,x.2.2.1.1)
theorem zam_sub0:qBm zam_L zam_G 1 201 216 0 zam_b0:=qAq (show zam_L 0=zam_l0 from by kernel_rfl) fun x R kn kx kr=>qAi (step:=fun y=>qC9 y.1 y.2.1 y.2.2.1 y.2.2.2.1 y.2.2.2.2) (enc:=fun (y:Int × (List Int) × (List Int) × (List Int) × (List Int))=>zam_d0.e ((x.1.1,x.1.2.1,y.1,x.1.2.2.2),((x.2.1.1,y.2.1,y.2.2.1,y.2.2.2.1,x.2.1.2.2.2.2),(y.2.2.2.2,x.2.2.1.2),x.2.2.2))) (fun y=>by kernel_rfl) (fun y ki=>by simp only [qC9,-eq_self,sZ]; kernel_rfl) (x.1.2.2.1,x.2.1.2.1,x.2.1.2.2.1,x.2.1.2.2.2.1,x.2.2.1.1)
theorem zam_sub2:qBm zam_L zam_G 1 201 216 2 zam_b2:=qAq (show zam_L 2=zam_l2 from by kernel_rfl) fun x R kn kx kr=>qAi (step:=fun y=>qEn y.1 y.2) (enc:=fun (y:Int × (List Int))=>zam_d2.e ((x.1.1,x.1.2.1,y.1,x.1.2.2.2),(x.2.1,(y.2,x.2.2.1.2),x.2.2.2))) (fun y=>by kernel_rfl) (fun y ki=>by simp only [qEn,-eq_self,sZ]; kernel_rfl) (x.1.2.2.1,x.2.2.1.1)
theorem zam_sub3:qBm zam_L zam_G 1 201 216 3 zam_b3:=qAq (show zam_L 3=zam_l3 from by kernel_rfl) fun x R kn kx kr=>qAi (step:=fun y=>qEo y.1 y.2.1 y.2.2.1 y.2.2.2.1 y.2.2.2.2.1 y.2.2.2.2.2.1 y.2.2.2.2.2.2.1 y.2.2.2.2.2.2.2.1 y.2.2.2.2.2.2.2.2 x.2.2.1.1) (enc:=fun (y:Int × Int × Int × Int × Int × Int × Int × Int × Int)=>zam_d3.e ((x.1.1,x.1.2.1,y.1,y.2.1,y.2.2.1,y.2.2.2.1,y.2.2.2.2.1,y.2.2.2.2.2.1,y.2.2.2.2.2.2.1,y.2.2.2.2.2.2.2.1,y.2.2.2.2.2.2.2.2,x.1.2.2.2.2.2.2.2.2.2.2.2),x.2)) (fun y=>by kernel_rfl) (fun y ki=>by simp only [qEo,-eq_self,sZ]; kernel_rfl) (x.1.2.2.1,x.1.2.2.2.1,x.1.2.2.2.2.1,x.1.2.2.2.2.2.1,x.1.2.2.2.2.2.2.1,x.1.2.2.2.2.2.2.2.1,x.1.2.2.2.2.2.2.2.2.1,x.1.2.2.2.2.2.2.2.2.2.1,x.1.2.2.2.2.2.2.2.2.2.2.1)
theorem zam_sub4:qBm zam_L zam_G 1 201 216 4 zam_b4:=qAq (show zam_L 4=zam_l4 from by kernel_rfl) fun x R kn kx kr=>qAi (step:=fun y=>qEp x.1.2.1.1 x.1.2.1.2.1 x.1.2.1.2.2.1 x.1.2.1.2.2.2.1 x.1.2.1.2.2.2.2.1 x.1.2.1.2.2.2.2.2.1 x.1.2.1.2.2.2.2.2.2.1 x.1.2.1.2.2.2.2.2.2.2.1 y.1 y.2) (enc:=fun (y:Int × (List Int))=>zam_d4.e ((x.1.1,x.1.2.1,y.1,x.1.2.2.2),((x.2.1.1,x.2.1.2.1,y.2,x.2.1.2.2.2),x.2.2))) (fun y=>by kernel_rfl) (fun y ki=>by simp only [qEp,-eq_self,sZ]; kernel_rfl) (x.1.2.2.1,x.2.1.2.2.1)
def zam_c:CS:=mkC (qAa (dVC (dCO (dH 0 0))) dNil) (qAa zDHA1 dNil) (fun x y=>zam_s (zYHA0 y)) (fun x y r=>.tup []) fun x y r=>[.cells 86 ([.vI r.hash]++(spr .u32 8 r.short++(spr .u64 8 r.long++(spr .u8 128 r.rest++([.val (.int .u64 r.n)])))))]
theorem zam_val:qA0 Tryd.prog 66 zam_c:=vl1 zam_q [] 216 201 1 (show qBt zam_L zam_G 1 201 216 [(0,zam_b0),(1,zam_b1),(2,zam_b2),(3,zam_b3),(4,zam_b4)] from ⟨zam_sub0,zam_sub1,zam_sub2,zam_sub3,zam_sub4,tV⟩) (qBv ⟨zaf_ok,tV⟩) fun x y=>by
 simp only [zam_s,-eq_self,sZ];kernel_rfl
def zam_w:CQ:=liftQ [true] zam_c
theorem zam_ok:qAm Tryd.prog 66 zam_w:=liftQ_valid zam_val
def zak_q:IQ:=(.join [] [] (.seq (rg 6 (rF 2 t0 0++[oP 6 (.bi .eql t5 (vI 1))])) (.cond t6 (rg 8 [oM 7 t0,oP 8 (.call 65 [t7])]) (rg 10 [oM 9 t0,oP 10 (.call 66 [t9])]))))
def zak_s (s:qFp):Option qFp :=
 bif decide (s.hash=(1:Int)) then (
  (zal_s (⟨s.hash,(nrm 8 s.short),(nrm 8 s.long),(nrm 128 s.rest),s.n⟩:qFp)).bind fun r2 =>
  some r2)
 else (
  (zam_s (⟨s.hash,(nrm 8 s.short),(nrm 8 s.long),(nrm 128 s.rest),s.n⟩:qFp)).bind fun r3 =>
  some r3)
def zak_c:CS:=mkC (qAa (dVC (dCO (dH 0 0))) dNil) (qAa zDHA1 dNil) (fun x y=>zak_s (zYHA0 y)) (fun x y r=>.tup []) fun x y r=>[.cells 86 ([.vI r.hash]++(spr .u32 8 r.short++(spr .u64 8 r.long++(spr .u8 128 r.rest++([.val (.int .u64 r.n)])))))]
theorem zak_val:qA0 Tryd.prog 52 zak_c:=vl0 zak_q [] 11 2 1 [(65,zal_w),(66,zam_w)] ⟨zal_ok,zam_ok,tV⟩ fun x y=>by
 simp only [zak_s,-eq_self,sZ];kernel_rfl
def zak_w:CQ:=liftQ [true] zak_c
theorem zak_ok:qAm Tryd.prog 52 zak_w:=liftQ_valid zak_val
def zaj_b0:IQ:=(.loop [0,1,4] (.join [(1000001,none,.u8,0)] [0,1,4] (.seq (.seq (rg 14 [oM 12 t1,oP 13 (.len t12),oP 14 (.bi .gtr t13 (vI 0))]) (.cond t14 .skip (.cn [] (.exit 0)))) (.block 1 (.seq (rg 5 (rF 15 t0 145++[oM 19 t4,oP 20 (.conv false .u64 t19),oP 21 (.bi .rem t18 t20),oP 22 (.conv false .i64 t21),oM 5 t22])) (.seq (rg 6 [oM 23 t0,oP 24 (.nk t23),oP 25 (.faddr 17 t24),oM 26 t5,oM 27 t4,oP 28 (.ext (.asub 128) [t25,t26,t27]),oM 29 t1,oP 30 (.ext .copyA [t28,t29]),oM 6 t30]) (.seq (rg 0 (rF 31 t0 145++[oM 35 t6,oP 36 (.conv false .u64 t35),oP 37 (.bi .add t34 t36)]++rS 38 t31 145 t37)) (.seq (rg 1 [oM 40 t1,oM 41 t6,oP 42 (.sub (some 1) t40 (some t41) none),oM 1 t42]) (.seq (rg 47 [oM 43 t5,oM 44 t6,oP 45 (.bi .add t43 t44),oM 46 t4,oP 47 (.bi .eql t45 t46)]) (.cond t47 (rg 49 [oM 48 t0,oP 49 (.call 52 [t48])]) .skip))))))))))
def zaj_q:IQ:=(.join [] [] (.seq (rg 4 (rF 7 t0 0++[oP 11 (.call 51 [t10]),oM 4 t11])) (.block 0 (.canon [(1000001,none,.u8,0)] [0,1,4] (.sub 0 zaj_b0)))))
def qC8 (size s_hash:Int) (s_short s_long s_rest:List Int) (s_n:Int) (b2:List Int):Option ((Int × (List Int) × (List Int) × (List Int) × Int × (List Int)) ⊕ (Int × (List Int) × (List Int) × (List Int) × Int)) :=
 bif decide ((0:Int)<(b2.length:Int)) then (
  gd (0≤s_n∧1≤(size % 18446744073709551616)) <|
  gd (qAe (s_n % (size % 18446744073709551616))) <|
  gd (0≤(s_n % (size % 18446744073709551616))∧(s_n % (size % 18446744073709551616))≤size∧size≤((128:Nat):Int)) <|
  gd ((Int.toNat (s_n % (size % 18446744073709551616)))+((Int.toNat size) - (Int.toNat (s_n % (size % 18446744073709551616))))≤128) <|
  gd (0≤(((min b2.length ((Int.toNat size) - (Int.toNat (s_n % (size % 18446744073709551616))))):Nat):Int)∧(((min b2.length ((Int.toNat size) - (Int.toNat (s_n % (size % 18446744073709551616))))):Nat):Int)≤(b2.length:Int)∧(b2.length:Int)≤b2.length) <|
  gd (qAe ((s_n % (size % 18446744073709551616))+(((min b2.length ((Int.toNat size) - (Int.toNat (s_n % (size % 18446744073709551616))))):Nat):Int))) <|
  bif decide (((s_n % (size % 18446744073709551616))+(((min b2.length ((Int.toNat size) - (Int.toNat (s_n % (size % 18446744073709551616))))):Nat):Int))=size) then (
   (zak_s (⟨s_hash,(nrm 8 s_short),(nrm 8 s_long),(nrm 128 ((nrm 128 s_rest).take (Int.toNat (s_n % (size % 18446744073709551616)))++(b2.take ((Int.toNat size) - (Int.toNat (s_n % (size % 18446744073709551616))))++(nrm 128 s_rest).drop ((Int.toNat (s_n % (size % 18446744073709551616)))+(min b2.length ((Int.toNat size) - (Int.toNat (s_n % (size % 18446744073709551616))))))))),((s_n+((((min b2.length ((Int.toNat size) - (Int.toNat (s_n % (size % 18446744073709551616))))):Nat):Int) % 18446744073709551616)) % 18446744073709551616)⟩:qFp)).bind fun r19 =>
   some (.inl (r19.hash,r19.short,r19.long,r19.rest,r19.n,((b2.take b2.length).drop (Int.toNat (((min b2.length ((Int.toNat size) - (Int.toNat (s_n % (size % 18446744073709551616))))):Nat):Int))))))
  else (
   some (.inl (s_hash,s_short,s_long,((nrm 128 s_rest).take (Int.toNat (s_n % (size % 18446744073709551616)))++(b2.take ((Int.toNat size) - (Int.toNat (s_n % (size % 18446744073709551616))))++(nrm 128 s_rest).drop ((Int.toNat (s_n % (size % 18446744073709551616)))+(min b2.length ((Int.toNat size) - (Int.toNat (s_n % (size % 18446744073709551616)))))))),((s_n+((((min b2.length ((Int.toNat size) - (Int.toNat (s_n % (size % 18446744073709551616))))):Nat):Int) % 18446744073709551616)) % 18446744073709551616),((b2.take b2.length).drop (Int.toNat (((min b2.length ((Int.toNat size) - (Int.toNat (s_n % (size % 18446744073709551616))))):Nat):Int)))))))
 else (
  some (.inr (s_hash,s_short,s_long,s_rest,s_n)))
def zaj_p0 (size s_hash:Int) (s_short s_long s_rest:List Int) (s_n:Int) (b2:List Int):Option (Int × (List Int) × (List Int) × (List Int) × Int) :=
 qAp (fun x:(Int × (List Int) × (List Int) × (List Int) × Int × (List Int))=>qC8 size x.1 x.2.1 x.2.2.1 x.2.2.2.1 x.2.2.2.2.1 x.2.2.2.2.2) (s_hash,s_short,s_long,s_rest,s_n,b2)
def zaj_s (s:qFp) (b:(List Int)):Option qFp :=
 (zag_s s.hash).bind fun r18 =>
 (zaj_p0 r18 s.hash (nrm 8 s.short) (nrm 8 s.long) (nrm 128 s.rest) s.n b).bind fun o20 =>
 some (⟨o20.1,o20.2.1,o20.2.2.1,o20.2.2.2.1,o20.2.2.2.2⟩:qFp)
def zaj_G:Nat→Option CQ:=tblQ [(51,zag_w),(52,zak_w)]
def zaj_d0:=(dQS (qAa (dSO 0 (dH 0 0)) (qAa (dSO 1 (dO 2)) (qAa (dSO 4 dZ) dNil))) (qAa zDHA1 (qAa (qDk .u8) (qAa (qDk .u8) dNil))))
def zaj_l0:SubQ:=mkL zaj_d0 (fun x=>zaj_p0 x.1.2.2.1 x.2.1.1 x.2.1.2.1 x.2.1.2.2.1 x.2.1.2.2.2.1 x.2.1.2.2.2.2.1 x.2.2.2.1) fun x r R kn kx kr=>kx 0 ⟨[],[],[.cells 86 ([.vI r.1]++(spr .u32 8 r.2.1++(spr .u64 8 r.2.2.1++(spr .u8 128 r.2.2.2.1++([.val (.int .u64 r.2.2.2.2)]))))),.view .u8 x.2.2.1]⟩
def zaj_L:Nat→SubQ:=tblL [(0,zaj_l0)]
theorem zaj_sub0:qBm zaj_L zaj_G 2 7 50 0 zaj_b0:=qAq (show zaj_L 0=zaj_l0 from by kernel_rfl) fun x R kn kx kr=>qAi (step:=fun y=>qC8 x.1.2.2.1 y.1 y.2.1 y.2.2.1 y.2.2.2.1 y.2.2.2.2.1 y.2.2.2.2.2) (enc:=fun (y:Int × (List Int) × (List Int) × (List Int) × Int × (List Int))=>zaj_d0.e (x.1,((y.1,y.2.1,y.2.2.1,y.2.2.2.1,y.2.2.2.2.1,x.2.1.2.2.2.2.2),x.2.2.1,y.2.2.2.2.2,x.2.2.2.2))) (fun y=>by kernel_rfl) (fun y ki=>by simp only [qC8,-eq_self,sZ]; kernel_rfl) (x.2.1.1,x.2.1.2.1,x.2.1.2.2.1,x.2.1.2.2.2.1,x.2.1.2.2.2.2.1,x.2.2.2.1)
def zaj_c:CS:=mkC (qAa (dVC (dCO (dH 0 0))) (qAa (dVC (dCO (dO 1))) dNil)) (qAa zDHA1 (qAa (qDk .u8) dNil)) (fun x y=>zaj_s (⟨y.1.1,y.1.2.1,y.1.2.2.1,y.1.2.2.2.1,y.1.2.2.2.2.1⟩:qFp) y.2.1) (fun x y r=>.tup []) fun x y r=>[.cells 86 ([.vI r.hash]++(spr .u32 8 r.short++(spr .u64 8 r.long++(spr .u8 128 r.rest++([.val (.int .u64 r.n)]))))),.view .u8 y.2.1]
theorem zaj_val:qA0 Tryd.prog 36 zaj_c:=vl1 zaj_q [] 50 7 2 (show qBt zaj_L zaj_G 2 7 50 [(0,zaj_b0)] from ⟨zaj_sub0,tV⟩) (qBv ⟨zag_ok,zak_ok,tV⟩) fun x y=>by
 simp only [zaj_s,-eq_self,sZ];kernel_rfl
def zaj_w:CQ:=prepQ [(1,none,some (.u8,5))] (liftQ [true,false] zaj_c)
theorem zaj_ok:qAm Tryd.prog 36 zaj_w:=qFl zaj_val
def zai_b0:IQ:=(.loop [3,4,5,6,7] (.seq (.seq (rg 40 [oM 27 t5,oM 28 t4,oP 29 (.conv false .u64 t28),oP 30 (.bi .rem t27 t29),oP 31 (.conv false .i64 t30),oM 32 t7,oP 33 (.len t32),oP 34 (.bi .add t31 t33),oM 35 t4,oP 36 (.bi .rem t34 t35),oM 37 t4,oM 38 t6,oP 39 (.bi .sub t37 t38),oP 40 (.bi .neq t36 t39)]) (.cond t40 .skip (.cn [3,5,6,7] (.exit 0)))) (.block 1 (rg 7 [oM 41 t7,oP 42 (.bslice 5 1 1 [.int .u8 0] [(0,(vC 0))]),oP 43 (.append 5 1 1 [.int .u8 0] t41 t42),oM 7 t43]))))
def zai_b1:IQ:=(.loop [3,5,7,8] (.seq (.seq (rg 47 [oM 46 t8,oP 47 (.bi .geq t46 (vI 0))]) (.cond t47 .skip (.cn [3,7] (.exit 2)))) (.seq (.block 3 (.seq (rg 9 [oP 9 (.mv (vC 0))]) (.seq (.block 4 (.seq (rg 50 [oM 51 t8,oP 52 (.bi .lss t51 (vI 8)),oM 50 t52]) (.cond t50 (rg 9 [oM 53 t5,oP 54 (.bi .shl t53 (.v (.int .u64 3))),oM 55 t8,oP 56 (.bi .mul (vI 8) t55),oP 57 (.bi .shr t54 t56),oP 58 (.conv false .u8 t57),oM 9 t58]) (.seq (rg 59 [oM 60 t8,oP 61 (.bi .eql t60 (vI 8)),oM 59 t61]) (.cond t59 (rg 9 [oM 62 t5,oP 63 (.bi .shr t62 (.v (.int .u64 61))),oP 64 (.conv false .u8 t63),oM 9 t64]) .skip))))) (rg 7 [oM 65 t7,oM 66 t9,oP 67 (.bslice 5 1 1 [.int .u8 0] [(0,t66)]),oP 68 (.append 5 1 1 [.int .u8 0] t65 t67),oM 7 t68])))) (rg 8 [oM 48 t8,oP 49 (.bi .sub t48 (vI 1)),oM 8 t49]))))
def zai_b2:IQ:=(.loop [10,75,76] (.seq (rg 77 [oP 77 (.bi .lss t76 (vI 8))]) (.seq (.cond t77 .skip (.cn [10] (.exit 5))) (.seq (.block 6 (.seq (rg 12 [oP 78 (.ext (.aix 8) [t75,t76]),oM 12 t78]) (rg 10 [oM 79 t10,oM 80 t12,oP 81 (.bi .shr t80 (.v (.int .u64 24))),oP 82 (.conv false .u8 t81),oM 83 t12,oP 84 (.bi .shr t83 (.v (.int .u64 16))),oP 85 (.conv false .u8 t84),oM 86 t12,oP 87 (.bi .shr t86 (.v (.int .u64 8))),oP 88 (.conv false .u8 t87),oM 89 t12,oP 90 (.conv false .u8 t89),oP 91 (.bslice 5 1 4 [.int .u8 0] [(0,t82),(1,t85),(2,t88),(3,t90)]),oP 92 (.append 5 1 1 [.int .u8 0] t79 t91),oM 10 t92]))) (rg 76 [oP 93 (.bi .add t76 (vI 1)),oM 76 t93])))))
def zai_b4:IQ:=(.loop [3,10,14,15,96,97] (.seq (.seq (rg 101 [oM 100 t15,oP 101 (.bi .geq t100 (vI 0))]) (.cond t101 .skip (.cn [3,10,96,97] (.exit 9)))) (.seq (.block 10 (rg 10 [oM 104 t10,oM 105 t14,oM 106 t15,oP 107 (.bi .shr t105 t106),oP 108 (.conv false .u8 t107),oP 109 (.bslice 5 1 1 [.int .u8 0] [(0,t108)]),oP 110 (.append 5 1 1 [.int .u8 0] t104 t109),oM 10 t110])) (rg 15 [oM 102 t15,oP 103 (.bi .sub t102 (vI 8)),oM 15 t103]))))
def zai_b3:IQ:=(.loop [3,10,96,97] (.seq (rg 98 [oP 98 (.bi .lss t97 (vI 8))]) (.seq (.cond t98 .skip (.cn [3,10] (.exit 7))) (.seq (.block 8 (.seq (rg 14 [oP 99 (.ext (.aix 8) [t96,t97]),oM 14 t99]) (.seq (rg 15 [oP 15 (.mv (vI 56))]) (.block 9 (.canon [(10,none,.u8,5)] [3,10,14,15,96,97] (.sub 4 zai_b4)))))) (rg 97 [oP 111 (.bi .add t97 (vI 1)),oM 97 t111])))))
def zai_q:IQ:=(.seq (rg 2 [oP 2 (.mv (.v (.slice none 0 0)))]) (.seq (rg 0 [oM 16 t0,oP 17 (.nk t16),oP 18 (.load (some 146) t17),oP 3 (.alloc 86 ([.int .i64 0]++List.replicate 8 (.int .u32 0)++List.replicate 8 (.int .u64 0)++List.replicate 128 (.int .u8 0)++[.int .u64 0])),oN (.store 146 t3 t18)]) (.seq (.reg 5 (some [0,1,3,4,2,5,6]) [oP 19 (.faddr 0 t3),oP 20 (.load none t19),oP 22 (.faddr 145 t3),oP 23 (.load none t22),oP 21 (.call 51 [t20]),oM 4 t21,oM 5 t23]) (.seq (rg 6 [oM 24 t4,oP 25 (.bi .quo t24 (vI 8)),oM 6 t25]) (.seq (rg 7 [oP 26 (.bslice 5 1 1 [.int .u8 0] [(0,(vC 128))]),oM 7 t26]) (.seq (.block 0 (.cn [3,4,5,6,7] (.sub 0 zai_b0))) (.seq (.seq (rg 8 [oM 44 t6,oP 45 (.bi .sub t44 (vI 1)),oM 8 t45]) (.block 2 (.cn [3,5,7,8] (.sub 1 zai_b1)))) (.seq (rg 70 [oM 69 t7,oP 70 (.call 36 [t3,t69])]) (.seq (rg 10 [oP 10 (.mv (.v (.slice none 0 0)))]) (.seq (.seq (rg 73 [oP 71 (.faddr 0 t3),oP 72 (.load none t71),oP 73 (.bi .eql t72 (vI 1))]) (.cond t73 (.seq (.seq (rg 76 [oP 74 (.faddr 1 t3),oP 75 (.load (some 8) t74),oP 76 (.mv (vI 0))]) (.block 5 (.canon [(10,none,.u8,5)] [10,75,76] (.sub 2 zai_b2)))) (.seq (rg 2 [oM 94 t10,oM 2 t94]) (.canon [(2,none,.u8,5),(6000002,none,.u8,5)] [2] .ret))) .skip)) (.seq (.seq (rg 97 [oP 95 (.faddr 9 t3),oP 96 (.load (some 8) t95),oP 97 (.mv (vI 0))]) (.block 7 (.canon [(10,none,.u8,5)] [3,10,96,97] (.sub 3 zai_b3)))) (.seq (.reg 2 (some [0,1,2,4,5,3,6,7,8]) [oM 112 t10,oP 113 (.faddr 0 t3),oP 114 (.load none t113),oP 116 (.faddr 0 t3),oP 117 (.load none t116),oP 115 (.call 17 [t114]),oP 118 (.call 17 [t117]),oP 119 (.ext (.sub3 1) [t112,(vI 0),t115,t118]),oM 2 t119]) (.canon [(2,none,.u8,5),(6000002,none,.u8,5)] [2] .ret)))))))))))))
def qC6 (size n field:Int) (pad:List Int):Option (((List Int)) ⊕ ((List Int))) :=
 gd (0≤n∧1≤(size % 18446744073709551616)) <|
 gd (qAe (n % (size % 18446744073709551616))) <|
 gd (qAe ((n % (size % 18446744073709551616))+(pad.length:Int))) <|
 gd (0≤((n % (size % 18446744073709551616))+(pad.length:Int))∧1≤size) <|
 gd (qAe (size - field)) <|
 bif (!decide ((((n % (size % 18446744073709551616))+(pad.length:Int)) % size)=(size - field))) then (
  gd (pad.length+([(0:Int)]:List Int).length≤9223372036854775807∧(pad.length+([(0:Int)]:List Int).length)*1≤140737488355328) <|
  some (.inl (pad++[(0:Int)])))
 else (
  some (.inr pad))
def zai_p0 (size n field:Int) (pad:List Int):Option ((List Int)) :=
 qAp (fun x:((List Int))=>qC6 size n field x) pad
def qEg (n i:Int) (pad:List Int):Option ((Int × (List Int)) ⊕ ((List Int))) :=
 bif decide ((0:Int)≤i) then (
  bif decide (i<(8:Int)) then (
   gd (0≤(3:Int)) <|
   gd (qAe ((8:Int)*i)) <|
   gd (0≤((8:Int)*i)) <|
   gd (pad.length+([((((n*8) % 18446744073709551616) / 2 ^ (min (Int.toNat ((8:Int)*i)) (IntKind.bits .u64))) % 256)]:List Int).length≤9223372036854775807∧(pad.length+([((((n*8) % 18446744073709551616) / 2 ^ (min (Int.toNat ((8:Int)*i)) (IntKind.bits .u64))) % 256)]:List Int).length)*1≤140737488355328) <|
   gd (qAe (i - (1:Int))) <|
   some (.inl ((i - (1:Int)),(pad++[((((n*8) % 18446744073709551616) / 2 ^ (min (Int.toNat ((8:Int)*i)) (IntKind.bits .u64))) % 256)]))))
  else (
   bif decide (i=(8:Int)) then (
    gd (0≤(61:Int)) <|
    gd (pad.length+([((n / 2305843009213693952) % 256)]:List Int).length≤9223372036854775807∧(pad.length+([((n / 2305843009213693952) % 256)]:List Int).length)*1≤140737488355328) <|
    gd (qAe (i - (1:Int))) <|
    some (.inl ((i - (1:Int)),(pad++[((n / 2305843009213693952) % 256)]))))
   else (
    gd (pad.length+([(0:Int)]:List Int).length≤9223372036854775807∧(pad.length+([(0:Int)]:List Int).length)*1≤140737488355328) <|
    gd (qAe (i - (1:Int))) <|
    some (.inl ((i - (1:Int)),(pad++[(0:Int)]))))))
 else (
  some (.inr pad))
def zai_p1 (n i:Int) (pad:List Int):Option ((List Int)) :=
 qAp (fun x:(Int × (List Int))=>qEg n x.1 x.2) (i,pad)
def qEh (x750_:List Int) (x76_:Int) (out:List Int):Option ((Int × (List Int)) ⊕ ((List Int))) :=
 bif decide (x76_<(8:Int)) then (
  gd (0≤x76_∧x76_<((8:Nat):Int)) <|
  gd (0≤(24:Int)) <|
  gd (0≤(16:Int)) <|
  gd (0≤(8:Int)) <|
  gd (out.length+([((((nrm 8 x750_).getD (Int.toNat x76_) 0) / 16777216) % 256),((((nrm 8 x750_).getD (Int.toNat x76_) 0) / 65536) % 256),((((nrm 8 x750_).getD (Int.toNat x76_) 0) / 256) % 256),(((nrm 8 x750_).getD (Int.toNat x76_) 0) % 256)]:List Int).length≤9223372036854775807∧(out.length+([((((nrm 8 x750_).getD (Int.toNat x76_) 0) / 16777216) % 256),((((nrm 8 x750_).getD (Int.toNat x76_) 0) / 65536) % 256),((((nrm 8 x750_).getD (Int.toNat x76_) 0) / 256) % 256),(((nrm 8 x750_).getD (Int.toNat x76_) 0) % 256)]:List Int).length)*1≤140737488355328) <|
  gd (qAe (x76_+(1:Int))) <|
  some (.inl ((x76_+(1:Int)),(out++[((((nrm 8 x750_).getD (Int.toNat x76_) 0) / 16777216) % 256),((((nrm 8 x750_).getD (Int.toNat x76_) 0) / 65536) % 256),((((nrm 8 x750_).getD (Int.toNat x76_) 0) / 256) % 256),(((nrm 8 x750_).getD (Int.toNat x76_) 0) % 256)]))))
 else (
  some (.inr out))
def zai_p2 (x750_:List Int) (x76_:Int) (out:List Int):Option ((List Int)) :=
 qAp (fun x:(Int × (List Int))=>qEh x750_ x.1 x.2) (x76_,out)
def qC7 (v i:Int) (out:List Int):Option ((Int × (List Int)) ⊕ ((List Int))) :=
 bif decide ((0:Int)≤i) then (
  gd (0≤i) <|
  gd (out.length+([((v / 2 ^ (min (Int.toNat i) (IntKind.bits .u64))) % 256)]:List Int).length≤9223372036854775807∧(out.length+([((v / 2 ^ (min (Int.toNat i) (IntKind.bits .u64))) % 256)]:List Int).length)*1≤140737488355328) <|
  gd (qAe (i - (8:Int))) <|
  some (.inl ((i - (8:Int)),(out++[((v / 2 ^ (min (Int.toNat i) (IntKind.bits .u64))) % 256)]))))
 else (
  some (.inr out))
def zai_p4 (v i:Int) (out:List Int):Option ((List Int)) :=
 qAp (fun x:(Int × (List Int))=>qC7 v x.1 x.2) (i,out)
def qCl (x960_:List Int) (x97_:Int) (s_short s_long s_rest c_short c_long c_rest out:List Int):Option (((List Int) × Int × (List Int) × (List Int) × (List Int) × (List Int) × (List Int) × (List Int) × (List Int)) ⊕ ((List Int) × (List Int) × (List Int) × (List Int) × (List Int) × (List Int) × (List Int))) :=
 bif decide (x97_<(8:Int)) then (
  gd (0≤x97_∧x97_<((8:Nat):Int)) <|
  (zai_p4 ((nrm 8 x960_).getD (Int.toNat x97_) 0) (56:Int) out).bind fun o103 =>
  gd (qAe (x97_+(1:Int))) <|
  some (.inl ((nrm 8 x960_),(x97_+(1:Int)),(nrm 8 s_short),(nrm 8 s_long),(nrm 128 s_rest),(nrm 8 c_short),(nrm 8 c_long),(nrm 128 c_rest),o103)))
 else (
  some (.inr (s_short,s_long,s_rest,c_short,c_long,c_rest,out)))
def zai_p3 (x960_:List Int) (x97_:Int) (s_short s_long s_rest c_short c_long c_rest out:List Int):Option ((List Int) × (List Int) × (List Int) × (List Int) × (List Int) × (List Int) × (List Int)) :=
 qAp (fun x:((List Int) × Int × (List Int) × (List Int) × (List Int) × (List Int) × (List Int) × (List Int) × (List Int))=>qCl x.1 x.2.1 x.2.2.1 x.2.2.2.1 x.2.2.2.2.1 x.2.2.2.2.2.1 x.2.2.2.2.2.2.1 x.2.2.2.2.2.2.2.1 x.2.2.2.2.2.2.2.2) (x960_,x97_,s_short,s_long,s_rest,c_short,c_long,c_rest,out)
def zai_s (s:qFp):Option (qFp × (List Int)) :=
 (zag_s s.hash).bind fun r98 =>
 gd (0≤r98∧r98≤9223372036854775807∧1≤(8:Int)) <|
 (zai_p0 r98 s.n (r98 / (8:Int)) [(128:Int)]).bind fun o99 =>
 gd (qAe ((r98 / (8:Int)) - (1:Int))) <|
 (zai_p1 s.n ((r98 / (8:Int)) - (1:Int)) o99).bind fun o100 =>
 (zaj_s (⟨s.hash,(nrm 8 (nrm 8 (nrm 8 s.short))),(nrm 8 (nrm 8 (nrm 8 s.long))),(nrm 128 (nrm 128 (nrm 128 s.rest))),s.n⟩:qFp) o100).bind fun r101 =>
 bif decide (r101.hash=(1:Int)) then (
  (zai_p2 (nrm 8 r101.short) (0:Int) []).bind fun o102 =>
  some ((⟨s.hash,(nrm 8 (nrm 8 (nrm 8 s.short))),(nrm 8 (nrm 8 (nrm 8 s.long))),(nrm 128 (nrm 128 (nrm 128 s.rest))),s.n⟩:qFp),o102))
 else (
  (zai_p3 (nrm 8 r101.long) (0:Int) (nrm 8 (nrm 8 (nrm 8 s.short))) (nrm 8 (nrm 8 (nrm 8 s.long))) (nrm 128 (nrm 128 (nrm 128 s.rest))) (nrm 8 r101.short) (nrm 8 r101.long) (nrm 128 r101.rest) []).bind fun o104 =>
  (zah_s r101.hash).bind fun r105 =>
  (zah_s r101.hash).bind fun r106 =>
  gd ((0:Int)=0∧0≤r105∧r105≤r106∧r106≤o104.2.2.2.2.2.2.length) <|
  some ((⟨s.hash,o104.1,o104.2.1,o104.2.2.1,s.n⟩:qFp),(o104.2.2.2.2.2.2.take (Int.toNat r105))))
def zai_G:Nat→Option CQ:=tblQ [(51,zag_w),(36,zaj_w),(17,zah_w)]
def zDHA3:=(qAa zDHA1 (qAa (dRow .u8 5) dNil))
def zai_d0:=(dQS (qAa (dSO 3 (dH 1 0)) (qAa (dSO 4 dZ) (qAa (dSO 5 (dI .u64)) (qAa (dSO 6 dZ) (qAa (dSO 7 (dO 2)) dNil))))) (qAa zDHA1 zDHA3))
def zai_l0:SubQ:=mkL zai_d0 (fun x=>zai_p0 x.1.2.1 x.1.2.2.1 x.1.2.2.2.1 x.2.2.2.1) fun x r R kn kx kr=>kx 0 ⟨[sL 3 (.hd 1 0),(5,[],.c (.o (.val (.int .u64 x.1.2.2.1)))),sL 6 (.vI x.1.2.2.2.1),sL 7 (.own 2)],[],[.cells 86 ([.vI x.2.1.1]++(spr .u32 8 x.2.1.2.1++(spr .u64 8 x.2.1.2.2.1++(spr .u8 128 x.2.1.2.2.2.1++([.val (.int .u64 x.2.1.2.2.2.2.1)]))))),.cells 86 ([.vI x.2.2.1.1]++(spr .u32 8 x.2.2.1.2.1++(spr .u64 8 x.2.2.1.2.2.1++(spr .u8 128 x.2.2.1.2.2.2.1++([.val (.int .u64 x.2.2.1.2.2.2.2.1)]))))),.row .u8 5 r]⟩
def zai_d1:=(dQS (qAa (dSO 3 (dH 1 0)) (qAa (dSO 5 (dI .u64)) (qAa (dSO 7 (dO 2)) (qAa (dSO 8 dZ) dNil)))) (qAa zDHA1 zDHA3))
def zai_l1:SubQ:=mkL zai_d1 (fun x=>zai_p1 x.1.2.1 x.1.2.2.2.1 x.2.2.2.1) fun x r R kn kx kr=>kx 2 ⟨[sL 3 (.hd 1 0),sL 7 (.own 2)],[],[.cells 86 ([.vI x.2.1.1]++(spr .u32 8 x.2.1.2.1++(spr .u64 8 x.2.1.2.2.1++(spr .u8 128 x.2.1.2.2.2.1++([.val (.int .u64 x.2.1.2.2.2.2.1)]))))),.cells 86 ([.vI x.2.2.1.1]++(spr .u32 8 x.2.2.1.2.1++(spr .u64 8 x.2.2.1.2.2.1++(spr .u8 128 x.2.2.1.2.2.2.1++([.val (.int .u64 x.2.2.1.2.2.2.2.1)]))))),.row .u8 5 r]⟩
def zai_d2:=(dQS (qAa (dSO 10 (dO 1)) (qAa (dSl 75 (dVC (dCA (dSpr .u32 8 dNil)))) (qAa (dSO 76 dZ) dNil))) zDHA3)
def zai_l2:SubQ:=mkL zai_d2 (fun x=>zai_p2 x.1.2.1.1 x.1.2.2.1 x.2.2.1) fun x r R kn kx kr=>kx 5 ⟨[sL 10 (.own 1)],[],[.cells 86 ([.vI x.2.1.1]++(spr .u32 8 x.2.1.2.1++(spr .u64 8 x.2.1.2.2.1++(spr .u8 128 x.2.1.2.2.2.1++([.val (.int .u64 x.2.1.2.2.2.2.1)]))))),.row .u8 5 r]⟩
def zai_d4:=(dQS (qAa (dSO 3 (dH 1 0)) (qAa (dSO 10 (dO 2)) (qAa (dSO 14 (dI .u64)) (qAa (dSO 15 dZ) (qAa (dSl 96 (dVC (dCA (dSpr .u64 8 dNil)))) (qAa (dSO 97 dZ) dNil)))))) (qAa zDHA1 zDHA3))
def zai_l4:SubQ:=mkL zai_d4 (fun x=>zai_p4 x.1.2.2.1 x.1.2.2.2.1 x.2.2.2.1) fun x r R kn kx kr=>kx 9 ⟨[sL 3 (.hd 1 0),sL 10 (.own 2),(96,[],.c (.agg (spr .u64 8 x.1.2.2.2.2.1.1))),sL 97 (.vI x.1.2.2.2.2.2.1)],[],[.cells 86 ([.vI x.2.1.1]++(spr .u32 8 x.2.1.2.1++(spr .u64 8 x.2.1.2.2.1++(spr .u8 128 x.2.1.2.2.2.1++([.val (.int .u64 x.2.1.2.2.2.2.1)]))))),.cells 86 ([.vI x.2.2.1.1]++(spr .u32 8 x.2.2.1.2.1++(spr .u64 8 x.2.2.1.2.2.1++(spr .u8 128 x.2.2.1.2.2.2.1++([.val (.int .u64 x.2.2.1.2.2.2.2.1)]))))),.row .u8 5 r]⟩
def zai_d3:=(dQS (qAa (dSO 3 (dH 1 0)) (qAa (dSO 10 (dO 2)) (qAa (dSl 96 (dVC (dCA (dSpr .u64 8 dNil)))) (qAa (dSO 97 dZ) dNil)))) (qAa zDHA1 zDHA3))
def zai_l3:SubQ:=mkL zai_d3 (fun x=>zai_p3 x.1.2.2.1.1 x.1.2.2.2.1 x.2.1.2.1 x.2.1.2.2.1 x.2.1.2.2.2.1 x.2.2.1.2.1 x.2.2.1.2.2.1 x.2.2.1.2.2.2.1 x.2.2.2.1) fun x r R kn kx kr=>kx 7 ⟨[sL 3 (.hd 1 0),sL 10 (.own 2)],[],[.cells 86 ([.vI x.2.1.1]++(spr .u32 8 r.1++(spr .u64 8 r.2.1++(spr .u8 128 r.2.2.1++([.val (.int .u64 x.2.1.2.2.2.2.1)]))))),.cells 86 ([.vI x.2.2.1.1]++(spr .u32 8 r.2.2.2.1++(spr .u64 8 r.2.2.2.2.1++(spr .u8 128 r.2.2.2.2.2.1++([.val (.int .u64 x.2.2.1.2.2.2.2.1)]))))),.row .u8 5 r.2.2.2.2.2.2]⟩
def zai_L:Nat→SubQ:=tblL [(0,zai_l0),(1,zai_l1),(2,zai_l2),(4,zai_l4),(3,zai_l3)]
theorem zai_sub0:qBm zai_L zai_G 1 98 120 0 zai_b0:=qAq (show zai_L 0=zai_l0 from by kernel_rfl) fun x R kn kx kr=>qAi (step:=fun y=>qC6 x.1.2.1 x.1.2.2.1 x.1.2.2.2.1 y) (enc:=fun (y:(List Int))=>zai_d0.e (x.1,(x.2.1,x.2.2.1,y,x.2.2.2.2))) (fun y=>by kernel_rfl) (fun y ki=>by simp only [qC6,-eq_self,sZ]; kernel_rfl) x.2.2.2.1
theorem zai_sub1:qBm zai_L zai_G 1 98 120 1 zai_b1:=qAq (show zai_L 1=zai_l1 from by kernel_rfl) fun x R kn kx kr=>qAi (step:=fun y=>qEg x.1.2.1 y.1 y.2) (enc:=fun (y:Int × (List Int))=>zai_d1.e ((x.1.1,x.1.2.1,x.1.2.2.1,y.1,x.1.2.2.2.2),(x.2.1,x.2.2.1,y.2,x.2.2.2.2))) (fun y=>by kernel_rfl) (fun y ki=>by simp only [qEg,-eq_self,sZ]; kernel_rfl) (x.1.2.2.2.1,x.2.2.2.1)
theorem zai_sub2:qBm zai_L zai_G 1 98 120 2 zai_b2:=qAq (show zai_L 2=zai_l2 from by kernel_rfl) fun x R kn kx kr=>qAi (step:=fun y=>qEh x.1.2.1.1 y.1 y.2) (enc:=fun (y:Int × (List Int))=>zai_d2.e ((x.1.1,x.1.2.1,y.1,x.1.2.2.2),(x.2.1,y.2,x.2.2.2))) (fun y=>by kernel_rfl) (fun y ki=>by simp only [qEh,-eq_self,sZ]; kernel_rfl) (x.1.2.2.1,x.2.2.1)
theorem zai_sub4:qBm zai_L zai_G 1 98 120 4 zai_b4:=qAq (show zai_L 4=zai_l4 from by kernel_rfl) fun x R kn kx kr=>qAi (step:=fun y=>qC7 x.1.2.2.1 y.1 y.2) (enc:=fun (y:Int × (List Int))=>zai_d4.e ((x.1.1,x.1.2.1,x.1.2.2.1,y.1,x.1.2.2.2.2),(x.2.1,x.2.2.1,y.2,x.2.2.2.2))) (fun y=>by kernel_rfl) (fun y ki=>by simp only [qC7,-eq_self,sZ]; kernel_rfl) (x.1.2.2.2.1,x.2.2.2.1)
theorem zai_sub3:qBm zai_L zai_G 1 98 120 3 zai_b3:=qAq (show zai_L 3=zai_l3 from by kernel_rfl) fun x R kn kx kr=>qAi (step:=fun y=>qCl y.1 y.2.1 y.2.2.1 y.2.2.2.1 y.2.2.2.2.1 y.2.2.2.2.2.1 y.2.2.2.2.2.2.1 y.2.2.2.2.2.2.2.1 y.2.2.2.2.2.2.2.2) (enc:=fun (y:(List Int) × Int × (List Int) × (List Int) × (List Int) × (List Int) × (List Int) × (List Int) × (List Int))=>zai_d3.e ((x.1.1,x.1.2.1,(y.1,x.1.2.2.1.2),y.2.1,x.1.2.2.2.2),((x.2.1.1,y.2.2.1,y.2.2.2.1,y.2.2.2.2.1,x.2.1.2.2.2.2),(x.2.2.1.1,y.2.2.2.2.2.1,y.2.2.2.2.2.2.1,y.2.2.2.2.2.2.2.1,x.2.2.1.2.2.2.2),y.2.2.2.2.2.2.2.2,x.2.2.2.2))) (fun y=>by kernel_rfl) (fun y ki=>by simp only [qCl,-eq_self,sZ]; kernel_rfl) (x.1.2.2.1.1,x.1.2.2.2.1,x.2.1.2.1,x.2.1.2.2.1,x.2.1.2.2.2.1,x.2.2.1.2.1,x.2.2.1.2.2.1,x.2.2.1.2.2.2.1,x.2.2.2.1)
def zai_c:CS:=mkC (qAa (dVC (dCO (dH 0 0))) dNil) (qAa zDHA1 dNil) (fun x y=>zai_s (zYHA0 y)) (fun x y r=>.c (.o (.own 1))) fun x y r=>[.cells 86 ([.vI r.1.hash]++(spr .u32 8 r.1.short++(spr .u64 8 r.1.long++(spr .u8 128 r.1.rest++([.val (.int .u64 r.1.n)]))))),.vrow .u8 r.2]
theorem zai_val:qA0 Tryd.prog 37 zai_c:=vl1 zai_q [.tmp 2] 120 98 1 (show qBt zai_L zai_G 1 98 120 [(0,zai_b0),(1,zai_b1),(2,zai_b2),(3,zai_b3),(4,zai_b4)] from ⟨zai_sub0,zai_sub1,zai_sub2,zai_sub3,zai_sub4,tV⟩) (qBv ⟨zag_ok,zaj_ok,zah_ok,tV⟩) fun x y=>by
 simp only [zai_s,-eq_self,sZ];kernel_rfl
def zai_w:CQ:=liftQ [true] zai_c
theorem zai_ok:qAm Tryd.prog 37 zai_w:=liftQ_valid zai_val
end
def itr {S:Type} (g:S→S):Nat→S→S
 | 0,s=>s
 | n+1,s=>itr g n (g s)
theorem qBc {S R:Type} {step:S→Option (S ⊕ R)} (c:S→Int) (g:S→S) (out:S→R) (I:S→Prop) (n:Int) (hs:∀s,I s→c s<n→step s=some (.inl (g s))∧c (g s)=c s+1∧I (g s))
  (he:∀s,I s→n≤c s→step s=some (.inr (out s))):∀(k:Nat) (s:S),I s→(n - c s).toNat=k→qAp step s=some (out (itr g k s))
 | 0,s,h0,hk=>qAt (he s h0 (by omega))
 | k+1,s,h0,hk=>by
  obtain ⟨h1,h2,h3⟩:=hs s h0 (by omega);rw [qAl h1];exact qBc c g out I n hs he k (g s) h3 (by omega)
theorem qA8 (n:Nat) (l:List Int):(nrm n l).length=n:=by
 have:∀n i,(nrmI l n i).length=n:=by
  intro n;induction n with
  | zero=>intro i; rfl
  | succ n ih=>intro i; simp [nrmI,ih]
 exact this n 0
theorem nrmI_eq (l:List Int):∀n i,i+n=l.length→nrmI l n i=l.drop i
 | 0,i,h=>by rw [List.drop_eq_nil_of_le (by omega)]; rfl
 | n+1,i,h=>by
  have h1:i<l.length:=by omega
  rw [nrmI,nrmI_eq l n (i+1) (by omega),List.drop_eq_getElem_cons h1,List.getD_eq_getElem?_getD,List.getElem?_eq_getElem h1];rfl
theorem qCs {n:Nat} {l:List Int} (h:l.length=n):nrm n l=l:=by
 unfold nrm;rw [nrmI_eq l n 0 (by omega),List.drop_zero]
@[simp] theorem qBi (n:Nat) (l:List Int):nrm n (nrm n l)=nrm n l:=qCs (qA8 n l)
def qCi (x_:Int) (k_:Int):Int:=qA6 .u32 ((x_*2 ^ (min (Int.toNat (qAd .u64 (k_ % 18446744073709551616) (31:Int))) (IntKind.bits .u32))) % 4294967296) (x_ / 2 ^ (min (Int.toNat (((32:Int) - (qAd .u64 (k_ % 18446744073709551616) (31:Int))) % 18446744073709551616)) (IntKind.bits .u32)))
def qCj (x_:Int) (k_:Int):Int:=qA6 .u64 ((x_*2 ^ (min (Int.toNat (qAd .u64 (k_ % 18446744073709551616) (63:Int))) (IntKind.bits .u64))) % 18446744073709551616) (x_ / 2 ^ (min (Int.toNat (((64:Int) - (qAd .u64 (k_ % 18446744073709551616) (63:Int))) % 18446744073709551616)) (IntKind.bits .u64)))
theorem bitAnd64 (x y:Int):0≤qAd .u64 x y:=by
 unfold qAd;rw [u64_eq];exact Int.emod_nonneg _ (by decide)
theorem p_rot32 (x k:Int):zae_s x k=some (qCi x k):=by
 unfold zae_s;exact (qAb (bitAnd64 _ _) _).trans (qAb (Int.emod_nonneg _ (by decide)) _)
theorem p_rot64 (x k:Int):zaf_s x k=some (qCj x k):=by
 unfold zaf_s;exact (qAb (bitAnd64 _ _) _).trans (qAb (Int.emod_nonneg _ (by decide)) _)
def s32A (x21_:Int) (s_rest:List Int) (w_v:List Int):(Int × (List Int)) :=
 ((x21_+(1:Int)),((nrm 64 w_v).set (Int.toNat x21_) (qA6 .u32 (qA6 .u32 (qA6 .u32 (((((nrm 128 s_rest).getD ((Int.toNat ((4:Int)*x21_))+0) 0) % 4294967296)*16777216) % 4294967296) (((((nrm 128 s_rest).getD ((Int.toNat ((4:Int)*x21_))+1) 0) % 4294967296)*65536) % 4294967296)) (((((nrm 128 s_rest).getD ((Int.toNat ((4:Int)*x21_))+2) 0) % 4294967296)*256) % 4294967296)) (((nrm 128 s_rest).getD ((Int.toNat ((4:Int)*x21_))+3) 0) % 4294967296))))
def s32B (i:Int) (w_v:List Int):(Int × (List Int)) :=
 let r160:=qCi ((nrm 64 w_v).getD (Int.toNat (i - (15:Int))) 0) (-7:Int)
 let r161:=qCi ((nrm 64 w_v).getD (Int.toNat (i - (15:Int))) 0) (-18:Int)
 let r162:=qCi ((nrm 64 w_v).getD (Int.toNat (i - (2:Int))) 0) (-17:Int)
 let r163:=qCi ((nrm 64 w_v).getD (Int.toNat (i - (2:Int))) 0) (-19:Int)
 ((i+(1:Int)),((nrm 64 w_v).set (Int.toNat i) ((((((((nrm 64 w_v).getD (Int.toNat (i - (16:Int))) 0)+((nrm 64 w_v).getD (Int.toNat (i - (7:Int))) 0)) % 4294967296)+(qAf .u32 (qAf .u32 r160 r161) (((nrm 64 w_v).getD (Int.toNat (i - (15:Int))) 0) / 8))) % 4294967296)+(qAf .u32 (qAf .u32 r162 r163) (((nrm 64 w_v).getD (Int.toNat (i - (2:Int))) 0) / 1024))) % 4294967296)))
def s32C (a:Int) (b:Int) (c:Int) (d:Int) (e:Int) (f:Int) (g:Int) (h:Int) (x136_:Int) (w_v:List Int):(Int × Int × Int × Int × Int × Int × Int × Int × Int) :=
 let r165:=qCi e (-6:Int)
 let r166:=qCi e (-11:Int)
 let r167:=qCi e (-25:Int)
 let r168:=qCi a (-2:Int)
 let r169:=qCi a (-13:Int)
 let r170:=qCi a (-22:Int)
 (((((((((((h+(qAf .u32 (qAf .u32 r165 r166) r167)) % 4294967296)+(qAf .u32 g (qAd .u32 e (qAf .u32 f g)))) % 4294967296)+(shaK256.getD ((0)+(Int.toNat x136_)*1) 0)) % 4294967296)+((nrm 64 w_v).getD (Int.toNat x136_) 0)) % 4294967296)+(((qAf .u32 (qAf .u32 r168 r169) r170)+(qA6 .u32 (qAd .u32 a b) (qAd .u32 c (qA6 .u32 a b)))) % 4294967296)) % 4294967296),a,b,c,((d+((((((((h+(qAf .u32 (qAf .u32 r165 r166) r167)) % 4294967296)+(qAf .u32 g (qAd .u32 e (qAf .u32 f g)))) % 4294967296)+(shaK256.getD ((0)+(Int.toNat x136_)*1) 0)) % 4294967296)+((nrm 64 w_v).getD (Int.toNat x136_) 0)) % 4294967296)) % 4294967296),e,f,g,(x136_+(1:Int)))
def s32D (x2040_:Int) (x2041_:Int) (x2042_:Int) (x2043_:Int) (x2044_:Int) (x2045_:Int) (x2046_:Int) (x2047_:Int) (x205_:Int) (s_short:List Int):(Int × (List Int)) :=
 ((x205_+(1:Int)),((nrm 8 s_short).set (Int.toNat x205_) ((((nrm 8 s_short).getD (Int.toNat x205_) 0)+((nrm 8 ([x2040_,x2041_,x2042_,x2043_,x2044_,x2045_,x2046_,x2047_]:List Int)).getD (Int.toNat x205_) 0)) % 4294967296)))
theorem shaK256_len:shaK256.length=64:=by decide
theorem shaK512_len:shaK512.length=80:=by decide
theorem p_32A (i:Int) (h0:0≤i) (r w:List Int):zal_p0 i r w=some (itr (fun x=>s32A x.1 r x.2) (16 - i).toNat (i,w)).2:=by
 unfold zal_p0;refine qBc (fun x=>x.1) (fun x=>s32A x.1 r x.2) (fun x=>x.2) (fun x=>0≤x.1) 16 (fun x hi hn=>?_) (fun x hi hn=>?_) _ (i,w) h0 rfl
 ·refine ⟨?_,rfl,by show 0≤x.1+1; omega⟩;unfold qEi;rw [deT hn,cnT]
  repeat refine (qAb (by first | decide | (unfold qAe; omega) | omega) _).trans ?_
  rfl
 ·unfold qEi;rw [deF (by omega),cnF]
theorem p_32B (i:Int) (h0:16≤i) (w:List Int):zal_p1 i w=some (itr (fun x=>s32B x.1 x.2) (64 - i).toNat (i,w)).2:=by
 unfold zal_p1;refine qBc (fun x=>x.1) (fun x=>s32B x.1 x.2) (fun x=>x.2) (fun x=>16≤x.1) 64 (fun x hi hn=>?_) (fun x hi hn=>?_) _ (i,w) h0 rfl
 ·refine ⟨?_,rfl,by show 16≤x.1+1; omega⟩;unfold qEj;rw [deT hn,cnT]
  repeat refine (qAb (by first | decide | (unfold qAe; omega) | omega) _).trans ?_
  simp only [p_rot32,obS]
  repeat refine (qAb (by first | decide | (unfold qAe; omega) | omega) _).trans ?_
  rfl
 ·unfold qEj;rw [deF (by omega),cnF]
theorem p_32C (i:Int) (h0:0≤i) (w:List Int) (a b c d e f g h:Int):zal_p2 a b c d e f g h i w=some ((fun x:Int × Int × Int × Int × Int × Int × Int × Int × Int=>(x.1,x.2.1,x.2.2.1,x.2.2.2.1,x.2.2.2.2.1,x.2.2.2.2.2.1,x.2.2.2.2.2.2.1,x.2.2.2.2.2.2.2.1)) (itr (fun x=>s32C x.1 x.2.1 x.2.2.1 x.2.2.2.1 x.2.2.2.2.1 x.2.2.2.2.2.1 x.2.2.2.2.2.2.1 x.2.2.2.2.2.2.2.1 x.2.2.2.2.2.2.2.2 w) (64 - i).toNat (a,b,c,d,e,f,g,h,i))):=by
 unfold zal_p2;refine qBc (fun x=>x.2.2.2.2.2.2.2.2) (fun x=>s32C x.1 x.2.1 x.2.2.1 x.2.2.2.1 x.2.2.2.2.1 x.2.2.2.2.2.1 x.2.2.2.2.2.2.1 x.2.2.2.2.2.2.2.1 x.2.2.2.2.2.2.2.2 w) (fun x=>(x.1,x.2.1,x.2.2.1,x.2.2.2.1,x.2.2.2.2.1,x.2.2.2.2.2.1,x.2.2.2.2.2.2.1,x.2.2.2.2.2.2.2.1)) (fun x=>0≤x.2.2.2.2.2.2.2.2) 64 (fun x hi hn=>?_) (fun x hi hn=>?_) _ (a,b,c,d,e,f,g,h,i) h0 rfl
 ·refine ⟨?_,rfl,by show 0≤x.2.2.2.2.2.2.2.2+1; omega⟩;unfold qEk;rw [deT hn,cnT];refine (qAb ⟨hi,hn⟩ _).trans ((qAb (by rw [shaK256_len]; omega) _).trans ((qAb ⟨hi,hn⟩ _).trans ((qAb (by omega) _).trans ?_)));simp only [p_rot32,obS];exact qAb (by unfold qAe; omega) _
 ·unfold qEk;rw [deF (by omega),cnF]
theorem p_32D (i:Int) (h0:0≤i) (s:List Int) (a b c d e f g h:Int):zal_p3 a b c d e f g h i s=some (itr (fun x=>s32D a b c d e f g h x.1 x.2) (8 - i).toNat (i,s)).2:=by
 unfold zal_p3;refine qBc (fun x=>x.1) (fun x=>s32D a b c d e f g h x.1 x.2) (fun x=>x.2) (fun x=>0≤x.1) 8 (fun x hi hn=>?_) (fun x hi hn=>?_) _ (i,s) h0 rfl
 ·refine ⟨?_,rfl,by show 0≤x.1+1; omega⟩;unfold qEl;rw [deT hn,cnT]
  repeat refine (qAb (by first | (unfold qAe; omega) | omega) _).trans ?_
  rfl
 ·unfold qEl;rw [deF (by omega),cnF]
def wrd32 (r:List Int):List Int:=(itr (fun x=>s32B x.1 x.2) 48 (16,nrm 64 (itr (fun x=>s32A x.1 (nrm 128 r) x.2) 16 (0,nrm 64 [])).2)).2
def rnd32 (s w:List Int):Int × Int × Int × Int × Int × Int × Int × Int × Int:=itr (fun x=>s32C x.1 x.2.1 x.2.2.1 x.2.2.2.1 x.2.2.2.2.1 x.2.2.2.2.2.1 x.2.2.2.2.2.2.1 x.2.2.2.2.2.2.2.1 x.2.2.2.2.2.2.2.2 (nrm 64 w)) 64 ((nrm 8 s).getD 0 0,(nrm 8 s).getD 1 0,(nrm 8 s).getD 2 0,(nrm 8 s).getD 3 0,(nrm 8 s).getD 4 0,(nrm 8 s).getD 5 0,(nrm 8 s).getD 6 0,(nrm 8 s).getD 7 0,0)
def add32 (x:Int × Int × Int × Int × Int × Int × Int × Int × Int) (s:List Int):List Int:=(itr (fun y=>s32D x.1 x.2.1 x.2.2.1 x.2.2.2.1 x.2.2.2.2.1 x.2.2.2.2.2.1 x.2.2.2.2.2.2.1 x.2.2.2.2.2.2.2.1 y.1 y.2) 8 (0,nrm 8 s)).2
def blk32 (s:qFp):qFp:=⟨s.hash,add32 (rnd32 s.short (wrd32 s.rest)) s.short,nrm 8 s.long,nrm 128 s.rest,s.n⟩
theorem p_block32 (s:qFp):zal_s s=some (blk32 s):=by
 unfold zal_s;rw [p_32A _ (by omega)];simp only [obS,qBi];rw [p_32B _ (by omega)];simp only [obS];rw [p_32C _ (by omega)];simp only [obS];rw [p_32D _ (by omega)];kernel_rfl
def s64A (i:Int) (x33_lo:Nat) (x33_n:Nat) (x34_:Int) (x35_:Int) (s_rest:List Int) (w_v:List Int):(Int × (List Int)) :=
 ((x35_+(1:Int)),((nrm 80 w_v).set (Int.toNat i) (qA6 .u64 ((((nrm 80 w_v).getD (Int.toNat i) 0)*256) % 18446744073709551616) (((nrm 128 s_rest).getD (x33_lo+Int.toNat x35_) 0) % 18446744073709551616))))
def s64B (i:Int) (w_v:List Int):(Int × (List Int)) :=
 let r180:=qCj ((nrm 80 w_v).getD (Int.toNat (i - (15:Int))) 0) (-1:Int)
 let r181:=qCj ((nrm 80 w_v).getD (Int.toNat (i - (15:Int))) 0) (-8:Int)
 let r182:=qCj ((nrm 80 w_v).getD (Int.toNat (i - (2:Int))) 0) (-19:Int)
 let r183:=qCj ((nrm 80 w_v).getD (Int.toNat (i - (2:Int))) 0) (-61:Int)
 ((i+(1:Int)),((nrm 80 w_v).set (Int.toNat i) ((((((((nrm 80 w_v).getD (Int.toNat (i - (16:Int))) 0)+((nrm 80 w_v).getD (Int.toNat (i - (7:Int))) 0)) % 18446744073709551616)+(qAf .u64 (qAf .u64 r180 r181) (((nrm 80 w_v).getD (Int.toNat (i - (15:Int))) 0) / 128))) % 18446744073709551616)+(qAf .u64 (qAf .u64 r182 r183) (((nrm 80 w_v).getD (Int.toNat (i - (2:Int))) 0) / 64))) % 18446744073709551616)))
def s64C (a:Int) (b:Int) (c:Int) (d:Int) (e:Int) (f:Int) (g:Int) (h:Int) (x131_:Int) (w_v:List Int):(Int × Int × Int × Int × Int × Int × Int × Int × Int) :=
 let r185:=qCj e (-14:Int)
 let r186:=qCj e (-18:Int)
 let r187:=qCj e (-41:Int)
 let r188:=qCj a (-28:Int)
 let r189:=qCj a (-34:Int)
 let r190:=qCj a (-39:Int)
 (((((((((((h+(qAf .u64 (qAf .u64 r185 r186) r187)) % 18446744073709551616)+(qAf .u64 g (qAd .u64 e (qAf .u64 f g)))) % 18446744073709551616)+(shaK512.getD ((0)+(Int.toNat x131_)*1) 0)) % 18446744073709551616)+((nrm 80 w_v).getD (Int.toNat x131_) 0)) % 18446744073709551616)+(((qAf .u64 (qAf .u64 r188 r189) r190)+(qA6 .u64 (qAd .u64 a b) (qAd .u64 c (qA6 .u64 a b)))) % 18446744073709551616)) % 18446744073709551616),a,b,c,((d+((((((((h+(qAf .u64 (qAf .u64 r185 r186) r187)) % 18446744073709551616)+(qAf .u64 g (qAd .u64 e (qAf .u64 f g)))) % 18446744073709551616)+(shaK512.getD ((0)+(Int.toNat x131_)*1) 0)) % 18446744073709551616)+((nrm 80 w_v).getD (Int.toNat x131_) 0)) % 18446744073709551616)) % 18446744073709551616),e,f,g,(x131_+(1:Int)))
def s64D (x1990_:Int) (x1991_:Int) (x1992_:Int) (x1993_:Int) (x1994_:Int) (x1995_:Int) (x1996_:Int) (x1997_:Int) (x200_:Int) (s_long:List Int):(Int × (List Int)) :=
 ((x200_+(1:Int)),((nrm 8 s_long).set (Int.toNat x200_) ((((nrm 8 s_long).getD (Int.toNat x200_) 0)+((nrm 8 ([x1990_,x1991_,x1992_,x1993_,x1994_,x1995_,x1996_,x1997_]:List Int)).getD (Int.toNat x200_) 0)) % 18446744073709551616)))
def w64A (r:List Int) (x:Int × List Int):Int × List Int:=(x.1+1,(itr (fun y=>s64A x.1 (8*x.1).toNat 8 8 y.1 r y.2) 8 (0,nrm 80 x.2)).2)
theorem p_64a (i:Int) (h0:0≤i) (h1:i<16) (r w:List Int):zam_p1 i (Int.toNat (8*i)) 8 8 0 r w=some (itr (fun y=>s64A i (8*i).toNat 8 8 y.1 r y.2) 8 (0,w)).2:=by
 unfold zam_p1;refine qBc (fun x=>x.1) (fun x=>s64A i (8*i).toNat 8 8 x.1 r x.2) (fun x=>x.2) (fun x=>0≤x.1) 8 (fun x hi hn=>?_) (fun x hi hn=>?_) _ (0,w) (Int.le_refl _) rfl
 ·refine ⟨?_,rfl,by show 0≤x.1+1; omega⟩;unfold qEm;rw [deT hn,cnT]
  repeat refine (qAb (by first | decide | (unfold qAe; omega) | omega) _).trans ?_
  rfl
 ·unfold qEm;rw [deF (by omega),cnF]
theorem p_64A (a l r w:List Int) (ha:a.length=8) (hl:l.length=8) (hr:r.length=128):zam_p0 0 a l r w=some (a,l,r,(itr (w64A r) 16 (0,w)).2):=by
 have key:∀(k:Nat) (i:Int) (w:List Int),0≤i→(16 - i).toNat=k→zam_p0 i a l r w=some (a,l,r,(itr (w64A r) k (i,w)).2):=by
  intro k;induction k with
  | zero =>
   intro i w h0 hk;unfold zam_p0;refine qAt ?_;unfold qC9;rw [deF (by omega),cnF];rfl
  | succ k ih =>
   intro i w h0 hk;have hst:qC9 i a l r w=some (.inl (i+1,a,l,r,(w64A r (i,w)).2)):=by
    unfold qC9;rw [deT (by omega),cnT]
    repeat refine (qAb (by first | (unfold qAe; omega) | omega) _).trans ?_
    have e8:Int.toNat (8*i+8) - Int.toNat (8*i)=8:=by omega
    rw [e8,qCs hr,show ((8:Nat):Int)=8 from rfl,p_64a i h0 (by omega),qCs ha,qCs hl];simp only [obS];exact qAb (by unfold qAe; omega) _
   have:=ih (i+1) (w64A r (i,w)).2 (by omega) (by omega);unfold zam_p0 at this ⊢;rw [qAl hst,this];rfl
 exact key 16 0 w (Int.le_refl _) rfl
theorem p_64B (i:Int) (h0:16≤i) (w:List Int):zam_p2 i w=some (itr (fun x=>s64B x.1 x.2) (80 - i).toNat (i,w)).2:=by
 unfold zam_p2;refine qBc (fun x=>x.1) (fun x=>s64B x.1 x.2) (fun x=>x.2) (fun x=>16≤x.1) 80 (fun x hi hn=>?_) (fun x hi hn=>?_) _ (i,w) h0 rfl
 ·refine ⟨?_,rfl,by show 16≤x.1+1; omega⟩;unfold qEn;rw [deT hn,cnT]
  repeat refine (qAb (by first | decide | (unfold qAe; omega) | omega) _).trans ?_
  simp only [p_rot64,obS]
  repeat refine (qAb (by first | decide | (unfold qAe; omega) | omega) _).trans ?_
  rfl
 ·unfold qEn;rw [deF (by omega),cnF]
theorem p_64C (i:Int) (h0:0≤i) (w:List Int) (a b c d e f g h:Int):zam_p3 a b c d e f g h i w=some ((fun x:Int × Int × Int × Int × Int × Int × Int × Int × Int=>(x.1,x.2.1,x.2.2.1,x.2.2.2.1,x.2.2.2.2.1,x.2.2.2.2.2.1,x.2.2.2.2.2.2.1,x.2.2.2.2.2.2.2.1)) (itr (fun x=>s64C x.1 x.2.1 x.2.2.1 x.2.2.2.1 x.2.2.2.2.1 x.2.2.2.2.2.1 x.2.2.2.2.2.2.1 x.2.2.2.2.2.2.2.1 x.2.2.2.2.2.2.2.2 w) (80 - i).toNat (a,b,c,d,e,f,g,h,i))):=by
 unfold zam_p3;refine qBc (fun x=>x.2.2.2.2.2.2.2.2) (fun x=>s64C x.1 x.2.1 x.2.2.1 x.2.2.2.1 x.2.2.2.2.1 x.2.2.2.2.2.1 x.2.2.2.2.2.2.1 x.2.2.2.2.2.2.2.1 x.2.2.2.2.2.2.2.2 w) (fun x=>(x.1,x.2.1,x.2.2.1,x.2.2.2.1,x.2.2.2.2.1,x.2.2.2.2.2.1,x.2.2.2.2.2.2.1,x.2.2.2.2.2.2.2.1)) (fun x=>0≤x.2.2.2.2.2.2.2.2) 80 (fun x hi hn=>?_) (fun x hi hn=>?_) _ (a,b,c,d,e,f,g,h,i) h0 rfl
 ·refine ⟨?_,rfl,by show 0≤x.2.2.2.2.2.2.2.2+1; omega⟩;unfold qEo;rw [deT hn,cnT];refine (qAb ⟨hi,hn⟩ _).trans ((qAb (by rw [shaK512_len]; omega) _).trans ((qAb ⟨hi,hn⟩ _).trans ((qAb (by omega) _).trans ?_)));simp only [p_rot64,obS];exact qAb (by unfold qAe; omega) _
 ·unfold qEo;rw [deF (by omega),cnF]
theorem p_64D (i:Int) (h0:0≤i) (s:List Int) (a b c d e f g h:Int):zam_p4 a b c d e f g h i s=some (itr (fun x=>s64D a b c d e f g h x.1 x.2) (8 - i).toNat (i,s)).2:=by
 unfold zam_p4;refine qBc (fun x=>x.1) (fun x=>s64D a b c d e f g h x.1 x.2) (fun x=>x.2) (fun x=>0≤x.1) 8 (fun x hi hn=>?_) (fun x hi hn=>?_) _ (i,s) h0 rfl
 ·refine ⟨?_,rfl,by show 0≤x.1+1; omega⟩;unfold qEp;rw [deT hn,cnT]
  repeat refine (qAb (by first | (unfold qAe; omega) | omega) _).trans ?_
  rfl
 ·unfold qEp;rw [deF (by omega),cnF]
def wrd64 (r:List Int):List Int:=(itr (fun x=>s64B x.1 x.2) 64 (16,nrm 80 (itr (w64A (nrm 128 r)) 16 (0,nrm 80 [])).2)).2
def rnd64 (s w:List Int):Int × Int × Int × Int × Int × Int × Int × Int × Int:=itr (fun x=>s64C x.1 x.2.1 x.2.2.1 x.2.2.2.1 x.2.2.2.2.1 x.2.2.2.2.2.1 x.2.2.2.2.2.2.1 x.2.2.2.2.2.2.2.1 x.2.2.2.2.2.2.2.2 (nrm 80 w)) 80 ((nrm 8 s).getD 0 0,(nrm 8 s).getD 1 0,(nrm 8 s).getD 2 0,(nrm 8 s).getD 3 0,(nrm 8 s).getD 4 0,(nrm 8 s).getD 5 0,(nrm 8 s).getD 6 0,(nrm 8 s).getD 7 0,0)
def add64 (x:Int × Int × Int × Int × Int × Int × Int × Int × Int) (s:List Int):List Int:=(itr (fun y=>s64D x.1 x.2.1 x.2.2.1 x.2.2.2.1 x.2.2.2.2.1 x.2.2.2.2.2.1 x.2.2.2.2.2.2.1 x.2.2.2.2.2.2.2.1 y.1 y.2) 8 (0,nrm 8 s)).2
def blk64 (s:qFp):qFp:=⟨s.hash,nrm 8 s.short,add64 (rnd64 s.long (wrd64 s.rest)) s.long,nrm 128 s.rest,s.n⟩
theorem p_block64 (s:qFp):zam_s s=some (blk64 s):=by
 unfold zam_s;rw [p_64A _ _ _ _ (qA8 _ _) (qA8 _ _) (qA8 _ _)];simp only [obS,qBi];rw [p_64B _ (by omega)];simp only [obS];rw [p_64C _ (by omega)];simp only [obS];rw [p_64D _ (by omega)];kernel_rfl
def blk (s:qFp):qFp:=bif decide (s.hash=1) then blk32 s else blk64 s
theorem blk32_nrm (s:qFp):blk32 ⟨s.hash,nrm 8 s.short,nrm 8 s.long,nrm 128 s.rest,s.n⟩=blk32 s:=by simp only [blk32,rnd32,wrd32,add32,qBi]
theorem blk64_nrm (s:qFp):blk64 ⟨s.hash,nrm 8 s.short,nrm 8 s.long,nrm 128 s.rest,s.n⟩=blk64 s:=by simp only [blk64,rnd64,wrd64,add64,qBi]
theorem p_block (s:qFp):zak_s s=some (blk s):=by
 unfold zak_s blk;cases decide (s.hash=1)
 ·simp only [cnF,p_block64,obS,blk64_nrm]
 ·simp only [cnT,p_block32,obS,blk32_nrm]
end Go.Proofs.YtobmafbliahplaaDoor
