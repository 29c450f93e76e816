/-
  Texts of a claim.
-/
import Derived.Test.YtobmafbliahplaaDoorEngO
import Derived.Test.YtobmafbliahplaaDoorProg
namespace Go.Proofs.YtobmafbliahplaaDoor
open Go.Eng
set_option linter.unusedVariables false
set_option linter.unusedSimpArgs false
set_option maxRecDepth 100000
noncomputable section
structure qGv where
 hash:Int
 short:(List Int)
 long:(List Int)
 rest:(List Int)
 n:Int
def zau_q:IQ:=(.seq (rg 2 [oP 2 (.mv (vI 0))]) (.seq (.seq (rg 3 [oM 3 t0]) (.block 0 (.seq (rg 4 [oP 5 (.bi .eql t3 (vI 1)),oM 4 t5]) (.cond t4 (.seq (rg 2 [oP 2 (.mv (vI 64))]) (.cn [2] .ret)) (.seq (.seq (rg 6 [oP 7 (.bi .eql t3 (vI 2)),oM 6 t7]) (.cond t6 .skip (rg 6 [oP 8 (.bi .eql t3 (vI 3)),oM 6 t8]))) (.cond t6 (.seq (rg 2 [oP 2 (.mv (vI 128))]) (.cn [2] .ret)) .skip)))))) (.seq (rg 2 [oP 2 (.mv (vI 0))]) (.cn [2] .ret))))
def zau_s (h:Int):Option Int :=
 bif decide (h=(1:Int)) then (
  some (64:Int))
 else (
  bif decide (h=(2:Int)) then (
   bif decide (h=(2:Int)) then (
    some (128:Int))
   else (
    some (0:Int)))
  else (
   bif decide (h=(3:Int)) then (
    some (128:Int))
   else (
    some (0:Int))))
def zau_c:CS:=mkC (qAa (dVC (dCO dZ)) dNil) dNil (fun x y=>zau_s x.1) (fun x y r=>.c (.o (.vI r))) fun x y r=>[]
theorem zau_val:qAl Tryd.prog 51 zau_c:=vl0 zau_q [.tmp 2] 9 4 0 [] trivial fun x y=>by
 simp only [zau_s,-eq_self,sZ];kernel_rfl
def zau_w:CQ:=qBu [] zau_c
theorem zau_ok:qAi Tryd.prog 51 zau_w:=qAw zau_val
def zav_q:IQ:=(.seq (rg 2 [oP 2 (.mv (vI 0))]) (.seq (.seq (rg 3 [oM 3 t0]) (.block 0 (.seq (rg 4 [oP 5 (.bi .eql t3 (vI 1)),oM 4 t5]) (.cond t4 (.seq (rg 2 [oP 2 (.mv (vI 32))]) (.cn [2] .ret)) (.seq (rg 6 [oP 7 (.bi .eql t3 (vI 2)),oM 6 t7]) (.cond t6 (.seq (rg 2 [oP 2 (.mv (vI 48))]) (.cn [2] .ret)) (.seq (rg 8 [oP 9 (.bi .eql t3 (vI 3)),oM 8 t9]) (.cond t8 (.seq (rg 2 [oP 2 (.mv (vI 64))]) (.cn [2] .ret)) .skip)))))))) (.seq (rg 2 [oP 2 (.mv (vI 0))]) (.cn [2] .ret))))
def zav_s (h:Int):Option Int :=
 bif decide (h=(1:Int)) then (
  some (32:Int))
 else (
  bif decide (h=(2:Int)) then (
   some (48:Int))
  else (
   bif decide (h=(3:Int)) then (
    some (64:Int))
   else (
    some (0:Int))))
def zav_c:CS:=mkC (qAa (dVC (dCO dZ)) dNil) dNil (fun x y=>zav_s x.1) (fun x y r=>.c (.o (.vI r))) fun x y r=>[]
theorem zav_val:qAl Tryd.prog 17 zav_c:=vl0 zav_q [.tmp 2] 10 4 0 [] trivial fun x y=>by
 simp only [zav_s,-eq_self,sZ];kernel_rfl
def zav_w:CQ:=qBu [] zav_c
theorem zav_ok:qAi Tryd.prog 17 zav_w:=qAw zav_val
def zas_q:IQ:=(.seq (rg 4 [oP 4 (.mv (.v (.int .u32 0)))]) (.seq (rg 5 [oM 6 t1,oP 7 (.conv false .u64 t6),oP 8 (.bi .and t7 (.v (.int .u64 31))),oM 5 t8]) (.seq (rg 4 [oM 9 t0,oM 10 t5,oP 11 (.bi .shl t9 t10),oM 12 t0,oM 13 t5,oP 14 (.bi .sub (.v (.int .u64 32)) t13),oP 15 (.bi .shr t12 t14),oP 16 (.bi .or t11 t15),oM 4 t16]) (.cn [4] .ret))))
def zas_s (x_ k_:Int):Option Int :=
 gd (0≤(qAg .u64 (k_ % 18446744073709551616) (31:Int))) <|
 gd (0≤(((32:Int) - (qAg .u64 (k_ % 18446744073709551616) (31:Int))) % 18446744073709551616)) <|
 some (qBf .u32 ((x_*2 ^ (min (Int.toNat (qAg .u64 (k_ % 18446744073709551616) (31:Int))) (IntKind.bits .u32))) % 4294967296) (x_ / 2 ^ (min (Int.toNat (((32:Int) - (qAg .u64 (k_ % 18446744073709551616) (31:Int))) % 18446744073709551616)) (IntKind.bits .u32))))
def zas_c:CS:=mkC (qAa (dVC (dCO (dI .u32))) (qAa (dVC (dCO dZ)) dNil)) dNil (fun x y=>zas_s x.1 x.2.1) (fun x y r=>.c (.o (.val (.int .u32 r)))) fun x y r=>[]
theorem zas_val:qAl Tryd.prog 72 zas_c:=vl0 zas_q [.tmp 4] 17 6 0 [] trivial fun x y=>by
 simp only [zas_s,-eq_self,sZ];kernel_rfl
def zas_w:CQ:=qBu [] zas_c
theorem zas_ok:qAi Tryd.prog 72 zas_w:=qAw zas_val
def zaz_b0:IQ:=(.loop [0,2,21] (.seq (rg 22 [oP 22 (.bi .lss t21 (vI 16))]) (.seq (.cond t22 .skip (.cn [0,2] (.exit 0))) (.seq (.block 1 (.seq (rg 3 [oM 23 t21,oM 3 t23]) (.seq (rg 4 [oM 24 t0,oP 25 (.nk t24),oP 26 (.faddr 17 t25),oM 27 t3,oP 28 (.bi .mul (vI 4) t27),oP 29 (.ext (.asub 128) [t26,t28,(vI 128)]),oM 4 t29]) (.reg 0 (some [0,1,2,3,4,5,6,7,8,9,10,11,12,13,14,15,16,17,18,19,20,21,22,23,24]) [oM 30 t3,oM 31 t4,oP 32 (.iaddr 1 t31 (vI 0)),oP 33 (.load none t32),oP 34 (.conv false .u32 t33),oP 35 (.bi .shl t34 (.v (.int .u64 24))),oM 36 t4,oP 37 (.iaddr 1 t36 (vI 1)),oP 38 (.load none t37),oP 39 (.conv false .u32 t38),oP 40 (.bi .shl t39 (.v (.int .u64 16))),oP 41 (.bi .or t35 t40),oM 42 t4,oP 43 (.iaddr 1 t42 (vI 2)),oP 44 (.load none t43),oP 45 (.conv false .u32 t44),oP 46 (.bi .shl t45 (.v (.int .u64 8))),oP 47 (.bi .or t41 t46),oM 48 t4,oP 49 (.iaddr 1 t48 (vI 3)),oP 50 (.load none t49),oP 51 (.conv false .u32 t50),oP 52 (.bi .or t47 t51),oP 53 (.ext (.pidx 64 1) [t2,t30]),oN (.store 1 t53 t52)])))) (rg 21 [oP 54 (.bi .add t21 (vI 1)),oM 21 t54])))))
def zaz_b1:IQ:=(.loop [0,2,5] (.seq (.seq (rg 56 [oM 55 t5,oP 56 (.bi .lss t55 (vI 64))]) (.cond t56 .skip (.cn [0,2] (.exit 2)))) (.seq (.block 3 (.seq (.reg 7 (some [0,1,2,3,4,5,6,7,8,9]) [oM 59 t5,oP 60 (.bi .sub t59 (vI 15)),oP 61 (.ext (.pidx 64 1) [t2,t60]),oP 62 (.load none t61),oM 63 t5,oP 64 (.bi .sub t63 (vI 2)),oP 65 (.ext (.pidx 64 1) [t2,t64]),oP 66 (.load none t65),oM 6 t62,oM 7 t66]) (.reg 0 (some [0,1,2,3,4,5,6,7,8,9,10,12,15,16,19,21,24,25,11,13,14,17,18,20,22,23,26,27,28,29]) [oM 67 t5,oM 68 t5,oP 69 (.bi .sub t68 (vI 16)),oP 70 (.ext (.pidx 64 1) [t2,t69]),oP 71 (.load none t70),oM 72 t5,oP 73 (.bi .sub t72 (vI 7)),oP 74 (.ext (.pidx 64 1) [t2,t73]),oP 75 (.load none t74),oP 76 (.bi .add t71 t75),oM 77 t6,oM 79 t6,oM 82 t6,oP 83 (.bi .shr t82 (.v (.int .u64 3))),oM 86 t7,oM 88 t7,oM 91 t7,oP 92 (.bi .shr t91 (.v (.int .u64 10))),oP 78 (.call 72 [t77,(.v (.int .i64 (-7)))]),oP 80 (.call 72 [t79,(.v (.int .i64 (-18)))]),oP 81 (.bi .xor t78 t80),oP 84 (.bi .xor t81 t83),oP 85 (.bi .add t76 t84),oP 87 (.call 72 [t86,(.v (.int .i64 (-17)))]),oP 89 (.call 72 [t88,(.v (.int .i64 (-19)))]),oP 90 (.bi .xor t87 t89),oP 93 (.bi .xor t90 t92),oP 94 (.bi .add t85 t93),oP 95 (.ext (.pidx 64 1) [t2,t67]),oN (.store 1 t95 t94)]))) (rg 5 [oM 57 t5,oP 58 (.bi .add t57 (vI 1)),oM 5 t58]))))
def zaz_b2:IQ:=(.loop [0,2,8,9,10,11,12,13,14,15,136] (.seq (rg 137 [oP 137 (.bi .lss t136 (vI 64))]) (.seq (.cond t137 .skip (.cn [0,8,9,10,11,12,13,14,15] (.exit 4))) (.seq (.block 5 (.seq (rg 16 [oM 138 t136,oM 16 t138]) (.seq (.reg 17 (some [0,1,3,6,10,11,12,13,14,15,16,18,19,20,22,23,24,2,4,5,7,8,9,17,21,25,26]) [oM 139 t15,oM 140 t12,oM 142 t12,oM 145 t12,oM 149 t14,oM 150 t12,oM 151 t13,oM 152 t14,oP 153 (.bi .xor t151 t152),oP 154 (.bi .and t150 t153),oP 155 (.bi .xor t149 t154),oM 157 t16,oP 158 (.ext (.pidx 64 1) [(.v (.pointer (some ⟨8,0,none⟩))),t157]),oP 159 (.load none t158),oM 161 t16,oP 162 (.ext (.pidx 64 1) [t2,t161]),oP 163 (.load none t162),oP 141 (.call 72 [t140,(.v (.int .i64 (-6)))]),oP 143 (.call 72 [t142,(.v (.int .i64 (-11)))]),oP 144 (.bi .xor t141 t143),oP 146 (.call 72 [t145,(.v (.int .i64 (-25)))]),oP 147 (.bi .xor t144 t146),oP 148 (.bi .add t139 t147),oP 156 (.bi .add t148 t155),oP 160 (.bi .add t156 t159),oP 164 (.bi .add t160 t163),oM 17 t164]) (.seq (rg 18 [oM 165 t8,oP 166 (.call 72 [t165,(.v (.int .i64 (-2)))]),oM 167 t8,oP 168 (.call 72 [t167,(.v (.int .i64 (-13)))]),oP 169 (.bi .xor t166 t168),oM 170 t8,oP 171 (.call 72 [t170,(.v (.int .i64 (-22)))]),oP 172 (.bi .xor t169 t171),oM 173 t8,oM 174 t9,oP 175 (.bi .and t173 t174),oM 176 t10,oM 177 t8,oM 178 t9,oP 179 (.bi .or t177 t178),oP 180 (.bi .and t176 t179),oP 181 (.bi .or t175 t180),oP 182 (.bi .add t172 t181),oM 18 t182]) (rg 8 [oM 183 t14,oM 184 t13,oM 185 t12,oM 186 t11,oM 187 t17,oP 188 (.bi .add t186 t187),oM 189 t10,oM 190 t9,oM 191 t8,oM 192 t17,oM 193 t18,oP 194 (.bi .add t192 t193),oM 15 t183,oM 14 t184,oM 13 t185,oM 12 t188,oM 11 t189,oM 10 t190,oM 9 t191,oM 8 t194]))))) (rg 136 [oP 195 (.bi .add t136 (vI 1)),oM 136 t195])))))
def zaz_b3:IQ:=(.loop [0,204,205] (.seq (rg 206 [oP 206 (.bi .lss t205 (vI 8))]) (.seq (.cond t206 .skip (.cn [] (.exit 6))) (.seq (.block 7 (.seq (rg 20 [oM 207 t205,oP 208 (.ext (.aix 8) [t204,t205]),oM 19 t207,oM 20 t208]) (.reg 0 (some [0,1,2,3,4,5,6,7,8,9,10,11]) [oM 209 t0,oM 210 t19,oP 211 (.nk t209),oP 212 (.faddr 1 t211),oP 213 (.ext (.pidx 8 1) [t212,t210]),oP 214 (.load none t213),oM 215 t20,oP 216 (.bi .add t214 t215),oP 217 (.nk t209),oP 218 (.faddr 1 t217),oP 219 (.ext (.pidx 8 1) [t218,t210]),oN (.store 1 t219 t216)]))) (rg 205 [oP 220 (.bi .add t205 (vI 1)),oM 205 t220])))))
def zaz_q:IQ:=(.join [] [] (.seq (rg 2 [oP 2 (.alloc 88 (List.replicate 64 (.int .u32 0)))]) (.seq (.seq (rg 21 [oP 21 (.mv (vI 0))]) (.block 0 (.cn [0,2,21] (.sub 0 zaz_b0)))) (.seq (.seq (rg 5 [oP 5 (.mv (vI 16))]) (.block 2 (.cn [0,2,5] (.sub 1 zaz_b1)))) (.seq (.reg 15 (some [0,1,2,3,4,5,6,7,8,9,10,11,12,13,14,15,16,17,18,19,20,21,22,23,24,25,26,27,28,29,30,31,32,33,34,35,36,37,38,39,40,41,42,43,44,45,46,47]) [oM 96 t0,oP 97 (.nk t96),oP 98 (.faddr 1 t97),oP 99 (.faddr 0 t98),oP 100 (.load none t99),oM 101 t0,oP 102 (.nk t101),oP 103 (.faddr 1 t102),oP 104 (.faddr 1 t103),oP 105 (.load none t104),oM 106 t0,oP 107 (.nk t106),oP 108 (.faddr 1 t107),oP 109 (.faddr 2 t108),oP 110 (.load none t109),oM 111 t0,oP 112 (.nk t111),oP 113 (.faddr 1 t112),oP 114 (.faddr 3 t113),oP 115 (.load none t114),oM 116 t0,oP 117 (.nk t116),oP 118 (.faddr 1 t117),oP 119 (.faddr 4 t118),oP 120 (.load none t119),oM 121 t0,oP 122 (.nk t121),oP 123 (.faddr 1 t122),oP 124 (.faddr 5 t123),oP 125 (.load none t124),oM 126 t0,oP 127 (.nk t126),oP 128 (.faddr 1 t127),oP 129 (.faddr 6 t128),oP 130 (.load none t129),oM 131 t0,oP 132 (.nk t131),oP 133 (.faddr 1 t132),oP 134 (.faddr 7 t133),oP 135 (.load none t134),oM 8 t100,oM 9 t105,oM 10 t110,oM 11 t115,oM 12 t120,oM 13 t125,oM 14 t130,oM 15 t135]) (.seq (.seq (rg 136 [oP 136 (.mv (vI 0))]) (.block 4 (.cn [0,2,8,9,10,11,12,13,14,15,136] (.sub 2 zaz_b2)))) (.seq (rg 205 [oM 196 t8,oM 197 t9,oM 198 t10,oM 199 t11,oM 200 t12,oM 201 t13,oM 202 t14,oM 203 t15,oP 204 (.build [.int .u32 0,.int .u32 0,.int .u32 0,.int .u32 0,.int .u32 0,.int .u32 0,.int .u32 0,.int .u32 0] [(0,1,t196),(1,1,t197),(2,1,t198),(3,1,t199),(4,1,t200),(5,1,t201),(6,1,t202),(7,1,t203)]),oP 205 (.mv (vI 0))]) (.block 6 (.cn [0,204,205] (.sub 3 zaz_b3))))))))))
def qE8 (x21_:Int) (s_rest w_v:List Int):Option ((Int × (List Int)) ⊕ ((List Int))) :=
 bif decide (x21_<(16:Int)) then (
  gd (qAc ((4:Int)*x21_)) <|
  gd (0≤((4:Int)*x21_)∧((4:Int)*x21_)≤(128:Int)∧(128:Int)≤((128:Nat):Int)) <|
  gd (0≤(0:Int)∧(0:Int)<(((128 - (Int.toNat ((4:Int)*x21_))):Nat):Int)∧(Int.toNat ((4:Int)*x21_))+(128 - (Int.toNat ((4:Int)*x21_)))≤128) <|
  gd (((Int.toNat ((4:Int)*x21_))+0)<128) <|
  gd (0≤(24:Int)) <|
  gd (0≤(1:Int)∧(1:Int)<(((128 - (Int.toNat ((4:Int)*x21_))):Nat):Int)∧(Int.toNat ((4:Int)*x21_))+(128 - (Int.toNat ((4:Int)*x21_)))≤128) <|
  gd (((Int.toNat ((4:Int)*x21_))+1)<128) <|
  gd (0≤(16:Int)) <|
  gd (0≤(2:Int)∧(2:Int)<(((128 - (Int.toNat ((4:Int)*x21_))):Nat):Int)∧(Int.toNat ((4:Int)*x21_))+(128 - (Int.toNat ((4:Int)*x21_)))≤128) <|
  gd (((Int.toNat ((4:Int)*x21_))+2)<128) <|
  gd (0≤(8:Int)) <|
  gd (0≤(3:Int)∧(3:Int)<(((128 - (Int.toNat ((4:Int)*x21_))):Nat):Int)∧(Int.toNat ((4:Int)*x21_))+(128 - (Int.toNat ((4:Int)*x21_)))≤128) <|
  gd (((Int.toNat ((4:Int)*x21_))+3)<128) <|
  gd (0≤x21_∧x21_<((64:Nat):Int)) <|
  gd ((Int.toNat x21_)<64) <|
  gd (qAc (x21_+(1:Int))) <|
  some (.inl ((x21_+(1:Int)),((nrm 64 w_v).set (Int.toNat x21_) (qBf .u32 (qBf .u32 (qBf .u32 (((((nrm 128 s_rest).getD ((Int.toNat ((4:Int)*x21_))+0) 0) % 4294967296)*16777216) % 4294967296) (((((nrm 128 s_rest).getD ((Int.toNat ((4:Int)*x21_))+1) 0) % 4294967296)*65536) % 4294967296)) (((((nrm 128 s_rest).getD ((Int.toNat ((4:Int)*x21_))+2) 0) % 4294967296)*256) % 4294967296)) (((nrm 128 s_rest).getD ((Int.toNat ((4:Int)*x21_))+3) 0) % 4294967296))))))
 else (
  some (.inr w_v))
def zaz_p0 (x21_:Int) (s_rest w_v:List Int):Option ((List Int)) :=
 qAn (fun x:(Int × (List Int))=>qE8 x.1 s_rest x.2) (x21_,w_v)
def qE9 (i:Int) (w_v:List Int):Option ((Int × (List Int)) ⊕ ((List Int))) :=
 bif decide (i<(64:Int)) then (
  gd (qAc (i - (15:Int))) <|
  gd (0≤(i - (15:Int))∧(i - (15:Int))<((64:Nat):Int)) <|
  gd ((Int.toNat (i - (15:Int)))<64) <|
  gd (qAc (i - (2:Int))) <|
  gd (0≤(i - (2:Int))∧(i - (2:Int))<((64:Nat):Int)) <|
  gd ((Int.toNat (i - (2:Int)))<64) <|
  gd (qAc (i - (16:Int))) <|
  gd (0≤(i - (16:Int))∧(i - (16:Int))<((64:Nat):Int)) <|
  gd ((Int.toNat (i - (16:Int)))<64) <|
  gd (qAc (i - (7:Int))) <|
  gd (0≤(i - (7:Int))∧(i - (7:Int))<((64:Nat):Int)) <|
  gd ((Int.toNat (i - (7:Int)))<64) <|
  gd (0≤(3:Int)) <|
  gd (0≤(10:Int)) <|
  (zas_s ((nrm 64 w_v).getD (Int.toNat (i - (15:Int))) 0) (-7:Int)).bind fun r160 =>
  (zas_s ((nrm 64 w_v).getD (Int.toNat (i - (15:Int))) 0) (-18:Int)).bind fun r161 =>
  (zas_s ((nrm 64 w_v).getD (Int.toNat (i - (2:Int))) 0) (-17:Int)).bind fun r162 =>
  (zas_s ((nrm 64 w_v).getD (Int.toNat (i - (2:Int))) 0) (-19:Int)).bind fun r163 =>
  gd (0≤i∧i<((64:Nat):Int)) <|
  gd ((Int.toNat i)<64) <|
  gd (qAc (i+(1:Int))) <|
  some (.inl ((i+(1:Int)),((nrm 64 w_v).set (Int.toNat i) ((((((((nrm 64 w_v).getD (Int.toNat (i - (16:Int))) 0)+((nrm 64 w_v).getD (Int.toNat (i - (7:Int))) 0)) % 4294967296)+(qAj .u32 (qAj .u32 r160 r161) (((nrm 64 w_v).getD (Int.toNat (i - (15:Int))) 0) / 8))) % 4294967296)+(qAj .u32 (qAj .u32 r162 r163) (((nrm 64 w_v).getD (Int.toNat (i - (2:Int))) 0) / 1024))) % 4294967296)))))
 else (
  some (.inr w_v))
def zaz_p1 (i:Int) (w_v:List Int):Option ((List Int)) :=
 qAn (fun x:(Int × (List Int))=>qE9 x.1 x.2) (i,w_v)
def qFa (a b c d e f g h x136_:Int) (w_v:List Int):Option ((Int × Int × Int × Int × Int × Int × Int × Int × Int) ⊕ (Int × Int × Int × Int × Int × Int × Int × Int)) :=
 bif decide (x136_<(64:Int)) then (
  gd (0≤x136_∧x136_<((64:Nat):Int)) <|
  gd (((0)+(Int.toNat x136_)*1)<shaK256.length) <|
  gd (0≤x136_∧x136_<((64:Nat):Int)) <|
  gd ((Int.toNat x136_)<64) <|
  (zas_s e (-6:Int)).bind fun r165 =>
  (zas_s e (-11:Int)).bind fun r166 =>
  (zas_s e (-25:Int)).bind fun r167 =>
  (zas_s a (-2:Int)).bind fun r168 =>
  (zas_s a (-13:Int)).bind fun r169 =>
  (zas_s a (-22:Int)).bind fun r170 =>
  gd (qAc (x136_+(1:Int))) <|
  some (.inl (((((((((((h+(qAj .u32 (qAj .u32 r165 r166) r167)) % 4294967296)+(qAj .u32 g (qAg .u32 e (qAj .u32 f g)))) % 4294967296)+(shaK256.getD ((0)+(Int.toNat x136_)*1) 0)) % 4294967296)+((nrm 64 w_v).getD (Int.toNat x136_) 0)) % 4294967296)+(((qAj .u32 (qAj .u32 r168 r169) r170)+(qBf .u32 (qAg .u32 a b) (qAg .u32 c (qBf .u32 a b)))) % 4294967296)) % 4294967296),a,b,c,((d+((((((((h+(qAj .u32 (qAj .u32 r165 r166) r167)) % 4294967296)+(qAj .u32 g (qAg .u32 e (qAj .u32 f g)))) % 4294967296)+(shaK256.getD ((0)+(Int.toNat x136_)*1) 0)) % 4294967296)+((nrm 64 w_v).getD (Int.toNat x136_) 0)) % 4294967296)) % 4294967296),e,f,g,(x136_+(1:Int)))))
 else (
  some (.inr (a,b,c,d,e,f,g,h)))
def zaz_p2 (a b c d e f g h x136_:Int) (w_v:List Int):Option (Int × Int × Int × Int × Int × Int × Int × Int) :=
 qAn (fun x:(Int × Int × Int × Int × Int × Int × Int × Int × Int)=>qFa x.1 x.2.1 x.2.2.1 x.2.2.2.1 x.2.2.2.2.1 x.2.2.2.2.2.1 x.2.2.2.2.2.2.1 x.2.2.2.2.2.2.2.1 x.2.2.2.2.2.2.2.2 w_v) (a,b,c,d,e,f,g,h,x136_)
def qFb (x2040_ x2041_ x2042_ x2043_ x2044_ x2045_ x2046_ x2047_ x205_:Int) (s_short:List Int):Option ((Int × (List Int)) ⊕ ((List Int))) :=
 bif decide (x205_<(8:Int)) then (
  gd (0≤x205_∧x205_<((8:Nat):Int)) <|
  gd (0≤x205_∧x205_<((8:Nat):Int)) <|
  gd ((Int.toNat x205_)<8) <|
  gd (0≤x205_∧x205_<((8:Nat):Int)) <|
  gd ((Int.toNat x205_)<8) <|
  gd (qAc (x205_+(1:Int))) <|
  some (.inl ((x205_+(1:Int)),((nrm 8 s_short).set (Int.toNat x205_) ((((nrm 8 s_short).getD (Int.toNat x205_) 0)+((nrm 8 ([x2040_,x2041_,x2042_,x2043_,x2044_,x2045_,x2046_,x2047_]:List Int)).getD (Int.toNat x205_) 0)) % 4294967296)))))
 else (
  some (.inr s_short))
def zaz_p3 (x2040_ x2041_ x2042_ x2043_ x2044_ x2045_ x2046_ x2047_ x205_:Int) (s_short:List Int):Option ((List Int)) :=
 qAn (fun x:(Int × (List Int))=>qFb x2040_ x2041_ x2042_ x2043_ x2044_ x2045_ x2046_ x2047_ x.1 x.2) (x205_,s_short)
def zaz_s (s:qGv):Option qGv :=
 (zaz_p0 (0:Int) (nrm 128 s.rest) (nrm 64 ([]:List Int))).bind fun o159 =>
 (zaz_p1 (16:Int) (nrm 64 o159)).bind fun o164 =>
 (zaz_p2 ((nrm 8 (nrm 8 s.short)).getD 0 0) ((nrm 8 (nrm 8 s.short)).getD 1 0) ((nrm 8 (nrm 8 s.short)).getD 2 0) ((nrm 8 (nrm 8 s.short)).getD 3 0) ((nrm 8 (nrm 8 s.short)).getD 4 0) ((nrm 8 (nrm 8 s.short)).getD 5 0) ((nrm 8 (nrm 8 s.short)).getD 6 0) ((nrm 8 (nrm 8 s.short)).getD 7 0) (0:Int) (nrm 64 o164)).bind fun o171 =>
 (zaz_p3 o171.1 o171.2.1 o171.2.2.1 o171.2.2.2.1 o171.2.2.2.2.1 o171.2.2.2.2.2.1 o171.2.2.2.2.2.2.1 o171.2.2.2.2.2.2.2 (0:Int) (nrm 8 (nrm 8 (nrm 8 (nrm 8 s.short))))).bind fun o172 =>
 some (⟨s.hash,o172,(nrm 8 (nrm 8 (nrm 8 (nrm 8 s.long)))),(nrm 128 (nrm 128 (nrm 128 (nrm 128 s.rest)))),s.n⟩:qGv)
def zaz_G:Nat→Option CQ:=tblQ [(72,zas_w)]
def zDHA1:=(qAy 86 (qAa dZ (dSpr .u32 8 (dSpr .u64 8 (dSpr .u8 128 (qAa (dI .u64) dNil))))))
def zDHA4:=(qAa zDHA1 (qAa (qAy 88 (dSpr .u32 64 dNil)) dNil))
def zaz_d0:=(dQS (qAa (dSO 0 (dH 0 0)) (qAa (dSO 2 (dH 1 0)) (qAa (dSO 21 dZ) dNil))) zDHA4)
def zaz_l0:SubQ:=mkL zaz_d0 (fun x=>zaz_p0 x.1.2.2.1 x.2.1.2.2.2.1 x.2.2.1.1) fun x r R kn kx kr=>kx 0 ⟨[sL 0 (.hd 0 0),sL 2 (.hd 1 0)],[],[.cells 86 ([.vI x.2.1.1]++(spr .u32 8 x.2.1.2.1++(spr .u64 8 x.2.1.2.2.1++(spr .u8 128 x.2.1.2.2.2.1++([.val (.int .u64 x.2.1.2.2.2.2.1)]))))),.cells 88 (spr .u32 64 r)]⟩
def zaz_d1:=(dQS (qAa (dSO 0 (dH 0 0)) (qAa (dSO 2 (dH 1 0)) (qAa (dSO 5 dZ) dNil))) zDHA4)
def zaz_l1:SubQ:=mkL zaz_d1 (fun x=>zaz_p1 x.1.2.2.1 x.2.2.1.1) fun x r R kn kx kr=>kx 2 ⟨[sL 0 (.hd 0 0),sL 2 (.hd 1 0)],[],[.cells 86 ([.vI x.2.1.1]++(spr .u32 8 x.2.1.2.1++(spr .u64 8 x.2.1.2.2.1++(spr .u8 128 x.2.1.2.2.2.1++([.val (.int .u64 x.2.1.2.2.2.2.1)]))))),.cells 88 (spr .u32 64 r)]⟩
def zaz_d2:=(dQS (qAa (dSO 0 (dH 0 0)) (qAa (dSO 2 (dH 1 0)) (qAa (dSO 8 (dI .u32)) (qAa (dSO 9 (dI .u32)) (qAa (dSO 10 (dI .u32)) (qAa (dSO 11 (dI .u32)) (qAa (dSO 12 (dI .u32)) (qAa (dSO 13 (dI .u32)) (qAa (dSO 14 (dI .u32)) (qAa (dSO 15 (dI .u32)) (qAa (dSO 136 dZ) dNil))))))))))) zDHA4)
def zaz_l2:SubQ:=mkL zaz_d2 (fun x=>zaz_p2 x.1.2.2.1 x.1.2.2.2.1 x.1.2.2.2.2.1 x.1.2.2.2.2.2.1 x.1.2.2.2.2.2.2.1 x.1.2.2.2.2.2.2.2.1 x.1.2.2.2.2.2.2.2.2.1 x.1.2.2.2.2.2.2.2.2.2.1 x.1.2.2.2.2.2.2.2.2.2.2.1 x.2.2.1.1) fun x r R kn kx kr=>kx 4 ⟨[sL 0 (.hd 0 0),(8,[],.c (.o (.val (.int .u32 r.1)))),(9,[],.c (.o (.val (.int .u32 r.2.1)))),(10,[],.c (.o (.val (.int .u32 r.2.2.1)))),(11,[],.c (.o (.val (.int .u32 r.2.2.2.1)))),(12,[],.c (.o (.val (.int .u32 r.2.2.2.2.1)))),(13,[],.c (.o (.val (.int .u32 r.2.2.2.2.2.1)))),(14,[],.c (.o (.val (.int .u32 r.2.2.2.2.2.2.1)))),(15,[],.c (.o (.val (.int .u32 r.2.2.2.2.2.2.2))))],[],[.cells 86 ([.vI x.2.1.1]++(spr .u32 8 x.2.1.2.1++(spr .u64 8 x.2.1.2.2.1++(spr .u8 128 x.2.1.2.2.2.1++([.val (.int .u64 x.2.1.2.2.2.2.1)])))))]⟩
def zaz_d3:=(dQS (qAa (dSO 0 (dH 0 0)) (qAa (dSl 204 (dVC (dCA (qAa (dI .u32) (qAa (dI .u32) (qAa (dI .u32) (qAa (dI .u32) (qAa (dI .u32) (qAa (dI .u32) (qAa (dI .u32) (qAa (dI .u32) dNil))))))))))) (qAa (dSO 205 dZ) dNil))) (qAa zDHA1 dNil))
def zaz_l3:SubQ:=mkL zaz_d3 (fun x=>zaz_p3 x.1.2.1.1 x.1.2.1.2.1 x.1.2.1.2.2.1 x.1.2.1.2.2.2.1 x.1.2.1.2.2.2.2.1 x.1.2.1.2.2.2.2.2.1 x.1.2.1.2.2.2.2.2.2.1 x.1.2.1.2.2.2.2.2.2.2.1 x.1.2.2.1 x.2.1.2.1) fun x r R kn kx kr=>kx 6 ⟨[],[],[.cells 86 ([.vI x.2.1.1]++(spr .u32 8 r++(spr .u64 8 x.2.1.2.2.1++(spr .u8 128 x.2.1.2.2.2.1++([.val (.int .u64 x.2.1.2.2.2.2.1)])))))]⟩
def zaz_L:Nat→SubQ:=tblL [(0,zaz_l0),(1,zaz_l1),(2,zaz_l2),(3,zaz_l3)]
theorem zaz_sub0:qA2 zaz_L zaz_G 1 206 221 0 zaz_b0:=qAm (show zaz_L 0=zaz_l0 from by kernel_rfl) fun x R kn kx kr=>qAf (step:=fun y=>qE8 y.1 x.2.1.2.2.2.1 y.2) (enc:=fun (y:Int × (List Int))=>zaz_d0.e ((x.1.1,x.1.2.1,y.1,x.1.2.2.2),(x.2.1,(y.2,x.2.2.1.2),x.2.2.2))) (fun y=>by kernel_rfl) (fun y ki=>by simp only [qE8,-eq_self,sZ]; kernel_rfl) (x.1.2.2.1,x.2.2.1.1)
theorem zaz_sub1:qA2 zaz_L zaz_G 1 206 221 1 zaz_b1:=qAm (show zaz_L 1=zaz_l1 from by kernel_rfl) fun x R kn kx kr=>qAf (step:=fun y=>qE9 y.1 y.2) (enc:=fun (y:Int × (List Int))=>zaz_d1.e ((x.1.1,x.1.2.1,y.1,x.1.2.2.2),(x.2.1,(y.2,x.2.2.1.2),x.2.2.2))) (fun y=>by kernel_rfl) (fun y ki=>by simp only [qE9,-eq_self,sZ]; kernel_rfl) (x.1.2.2.1,x.2.2.1.1)
theorem zaz_sub2:qA2 zaz_L zaz_G 1 206 221 2 zaz_b2:=qAm (show zaz_L 2=zaz_l2 from by kernel_rfl) fun x R kn kx kr=>qAf (step:=fun y=>qFa y.1 y.2.1 y.2.2.1 y.2.2.2.1 y.2.2.2.2.1 y.2.2.2.2.2.1 y.2.2.2.2.2.2.1 y.2.2.2.2.2.2.2.1 y.2.2.2.2.2.2.2.2 x.2.2.1.1) (enc:=fun (y:Int × Int × Int × Int × Int × Int × Int × Int × Int)=>zaz_d2.e ((x.1.1,x.1.2.1,y.1,y.2.1,y.2.2.1,y.2.2.2.1,y.2.2.2.2.1,y.2.2.2.2.2.1,y.2.2.2.2.2.2.1,y.2.2.2.2.2.2.2.1,y.2.2.2.2.2.2.2.2,x.1.2.2.2.2.2.2.2.2.2.2.2),x.2)) (fun y=>by kernel_rfl) (fun y ki=>by simp only [qFa,-eq_self,sZ]; kernel_rfl) (x.1.2.2.1,x.1.2.2.2.1,x.1.2.2.2.2.1,x.1.2.2.2.2.2.1,x.1.2.2.2.2.2.2.1,x.1.2.2.2.2.2.2.2.1,x.1.2.2.2.2.2.2.2.2.1,x.1.2.2.2.2.2.2.2.2.2.1,x.1.2.2.2.2.2.2.2.2.2.2.1)
theorem zaz_sub3:qA2 zaz_L zaz_G 1 206 221 3 zaz_b3:=qAm (show zaz_L 3=zaz_l3 from by kernel_rfl) fun x R kn kx kr=>qAf (step:=fun y=>qFb x.1.2.1.1 x.1.2.1.2.1 x.1.2.1.2.2.1 x.1.2.1.2.2.2.1 x.1.2.1.2.2.2.2.1 x.1.2.1.2.2.2.2.2.1 x.1.2.1.2.2.2.2.2.2.1 x.1.2.1.2.2.2.2.2.2.2.1 y.1 y.2) (enc:=fun (y:Int × (List Int))=>zaz_d3.e ((x.1.1,x.1.2.1,y.1,x.1.2.2.2),((x.2.1.1,y.2,x.2.1.2.2),x.2.2))) (fun y=>by kernel_rfl) (fun y ki=>by simp only [qFb,-eq_self,sZ]; kernel_rfl) (x.1.2.2.1,x.2.1.2.1)
def zYHA0 (y:dTy (qAa zDHA1 dNil)):qGv:=(⟨y.1.1,y.1.2.1,y.1.2.2.1,y.1.2.2.2.1,y.1.2.2.2.2.1⟩:qGv)
def zaz_c:CS:=mkC (qAa (dVC (dCO (dH 0 0))) dNil) (qAa zDHA1 dNil) (fun x y=>zaz_s (zYHA0 y)) (fun x y r=>.tup []) fun x y r=>[.cells 86 ([.vI r.hash]++(spr .u32 8 r.short++(spr .u64 8 r.long++(spr .u8 128 r.rest++([.val (.int .u64 r.n)])))))]
theorem zaz_val:qAl Tryd.prog 65 zaz_c:=vl1 zaz_q [] 221 206 1 (show qA8 zaz_L zaz_G 1 206 221 [(0,zaz_b0),(1,zaz_b1),(2,zaz_b2),(3,zaz_b3)] from ⟨zaz_sub0,zaz_sub1,zaz_sub2,zaz_sub3,tV⟩) (qAs ⟨zas_ok,tV⟩) fun x y=>by
 simp only [zaz_s,-eq_self,sZ];kernel_rfl
def zaz_w:CQ:=qDb [true] zaz_c
theorem zaz_ok:qAi Tryd.prog 65 zaz_w:=qB3 zaz_val
def zat_q:IQ:=(.seq (rg 4 [oP 4 (.mv (.v (.int .u64 0)))]) (.seq (rg 5 [oM 6 t1,oP 7 (.conv false .u64 t6),oP 8 (.bi .and t7 (.v (.int .u64 63))),oM 5 t8]) (.seq (rg 4 [oM 9 t0,oM 10 t5,oP 11 (.bi .shl t9 t10),oM 12 t0,oM 13 t5,oP 14 (.bi .sub (.v (.int .u64 64)) t13),oP 15 (.bi .shr t12 t14),oP 16 (.bi .or t11 t15),oM 4 t16]) (.cn [4] .ret))))
def zat_s (x_ k_:Int):Option Int :=
 gd (0≤(qAg .u64 (k_ % 18446744073709551616) (63:Int))) <|
 gd (0≤(((64:Int) - (qAg .u64 (k_ % 18446744073709551616) (63:Int))) % 18446744073709551616)) <|
 some (qBf .u64 ((x_*2 ^ (min (Int.toNat (qAg .u64 (k_ % 18446744073709551616) (63:Int))) (IntKind.bits .u64))) % 18446744073709551616) (x_ / 2 ^ (min (Int.toNat (((64:Int) - (qAg .u64 (k_ % 18446744073709551616) (63:Int))) % 18446744073709551616)) (IntKind.bits .u64))))
def zat_c:CS:=mkC (qAa (dVC (dCO (dI .u64))) (qAa (dVC (dCO dZ)) dNil)) dNil (fun x y=>zat_s x.1 x.2.1) (fun x y r=>.c (.o (.val (.int .u64 r)))) fun x y r=>[]
theorem zat_val:qAl Tryd.prog 73 zat_c:=vl0 zat_q [.tmp 4] 17 6 0 [] trivial fun x y=>by
 simp only [zat_s,-eq_self,sZ];kernel_rfl
def zat_w:CQ:=qBu [] zat_c
theorem zat_ok:qAi Tryd.prog 73 zat_w:=qAw zat_val
def zba_b1:IQ:=(.loop [0,2,3,22,33,34,35] (.seq (rg 36 [oP 36 (.bi .lss t35 t34)]) (.seq (.cond t36 .skip (.cn [0,2,22] (.exit 2))) (.seq (.block 3 (.seq (rg 5 [oP 37 (.iaddr 1 t33 t35),oP 38 (.load none t37),oM 5 t38]) (rg 0 [oM 39 t3,oM 40 t3,oP 41 (.ext (.pidx 80 1) [t2,t40]),oP 42 (.load none t41),oP 43 (.bi .shl t42 (.v (.int .u64 8))),oM 44 t5,oP 45 (.conv false .u64 t44),oP 46 (.bi .or t43 t45),oP 47 (.ext (.pidx 80 1) [t2,t39]),oN (.store 1 t47 t46)]))) (rg 35 [oP 48 (.bi .add t35 (vI 1)),oM 35 t48])))))
def zba_b0:IQ:=(.loop [0,2,22] (.seq (rg 23 [oP 23 (.bi .lss t22 (vI 16))]) (.seq (.cond t23 .skip (.cn [0,2] (.exit 0))) (.seq (.block 1 (.seq (rg 3 [oM 24 t22,oM 3 t24]) (.seq (rg 35 [oM 25 t0,oP 26 (.nk t25),oP 27 (.faddr 17 t26),oM 28 t3,oP 29 (.bi .mul (vI 8) t28),oM 30 t3,oP 31 (.bi .mul (vI 8) t30),oP 32 (.bi .add t31 (vI 8)),oP 33 (.ext (.asub 128) [t27,t29,t32]),oP 34 (.len t33),oP 35 (.mv (vI 0))]) (.block 2 (.cn [0,2,3,22,33,34,35] (.sub 1 zba_b1)))))) (rg 22 [oP 49 (.bi .add t22 (vI 1)),oM 22 t49])))))
def zba_b2:IQ:=(.loop [0,2,6] (.seq (.seq (rg 51 [oM 50 t6,oP 51 (.bi .lss t50 (vI 80))]) (.cond t51 .skip (.cn [0,2] (.exit 4)))) (.seq (.block 5 (.seq (.reg 8 (some [0,1,2,3,4,5,6,7,8,9]) [oM 54 t6,oP 55 (.bi .sub t54 (vI 15)),oP 56 (.ext (.pidx 80 1) [t2,t55]),oP 57 (.load none t56),oM 58 t6,oP 59 (.bi .sub t58 (vI 2)),oP 60 (.ext (.pidx 80 1) [t2,t59]),oP 61 (.load none t60),oM 7 t57,oM 8 t61]) (.reg 0 (some [0,1,2,3,4,5,6,7,8,9,10,12,15,16,19,21,24,25,11,13,14,17,18,20,22,23,26,27,28,29]) [oM 62 t6,oM 63 t6,oP 64 (.bi .sub t63 (vI 16)),oP 65 (.ext (.pidx 80 1) [t2,t64]),oP 66 (.load none t65),oM 67 t6,oP 68 (.bi .sub t67 (vI 7)),oP 69 (.ext (.pidx 80 1) [t2,t68]),oP 70 (.load none t69),oP 71 (.bi .add t66 t70),oM 72 t7,oM 74 t7,oM 77 t7,oP 78 (.bi .shr t77 (.v (.int .u64 7))),oM 81 t8,oM 83 t8,oM 86 t8,oP 87 (.bi .shr t86 (.v (.int .u64 6))),oP 73 (.call 73 [t72,(.v (.int .i64 (-1)))]),oP 75 (.call 73 [t74,(.v (.int .i64 (-8)))]),oP 76 (.bi .xor t73 t75),oP 79 (.bi .xor t76 t78),oP 80 (.bi .add t71 t79),oP 82 (.call 73 [t81,(.v (.int .i64 (-19)))]),oP 84 (.call 73 [t83,(.v (.int .i64 (-61)))]),oP 85 (.bi .xor t82 t84),oP 88 (.bi .xor t85 t87),oP 89 (.bi .add t80 t88),oP 90 (.ext (.pidx 80 1) [t2,t62]),oN (.store 1 t90 t89)]))) (rg 6 [oM 52 t6,oP 53 (.bi .add t52 (vI 1)),oM 6 t53]))))
def zba_b3:IQ:=(.loop [0,2,9,10,11,12,13,14,15,16,131] (.seq (rg 132 [oP 132 (.bi .lss t131 (vI 80))]) (.seq (.cond t132 .skip (.cn [0,9,10,11,12,13,14,15,16] (.exit 6))) (.seq (.block 7 (.seq (rg 17 [oM 133 t131,oM 17 t133]) (.seq (.reg 18 (some [0,1,3,6,10,11,12,13,14,15,16,18,19,20,22,23,24,2,4,5,7,8,9,17,21,25,26]) [oM 134 t16,oM 135 t13,oM 137 t13,oM 140 t13,oM 144 t15,oM 145 t13,oM 146 t14,oM 147 t15,oP 148 (.bi .xor t146 t147),oP 149 (.bi .and t145 t148),oP 150 (.bi .xor t144 t149),oM 152 t17,oP 153 (.ext (.pidx 80 1) [(.v (.pointer (some ⟨9,0,none⟩))),t152]),oP 154 (.load none t153),oM 156 t17,oP 157 (.ext (.pidx 80 1) [t2,t156]),oP 158 (.load none t157),oP 136 (.call 73 [t135,(.v (.int .i64 (-14)))]),oP 138 (.call 73 [t137,(.v (.int .i64 (-18)))]),oP 139 (.bi .xor t136 t138),oP 141 (.call 73 [t140,(.v (.int .i64 (-41)))]),oP 142 (.bi .xor t139 t141),oP 143 (.bi .add t134 t142),oP 151 (.bi .add t143 t150),oP 155 (.bi .add t151 t154),oP 159 (.bi .add t155 t158),oM 18 t159]) (.seq (rg 19 [oM 160 t9,oP 161 (.call 73 [t160,(.v (.int .i64 (-28)))]),oM 162 t9,oP 163 (.call 73 [t162,(.v (.int .i64 (-34)))]),oP 164 (.bi .xor t161 t163),oM 165 t9,oP 166 (.call 73 [t165,(.v (.int .i64 (-39)))]),oP 167 (.bi .xor t164 t166),oM 168 t9,oM 169 t10,oP 170 (.bi .and t168 t169),oM 171 t11,oM 172 t9,oM 173 t10,oP 174 (.bi .or t172 t173),oP 175 (.bi .and t171 t174),oP 176 (.bi .or t170 t175),oP 177 (.bi .add t167 t176),oM 19 t177]) (rg 9 [oM 178 t15,oM 179 t14,oM 180 t13,oM 181 t12,oM 182 t18,oP 183 (.bi .add t181 t182),oM 184 t11,oM 185 t10,oM 186 t9,oM 187 t18,oM 188 t19,oP 189 (.bi .add t187 t188),oM 16 t178,oM 15 t179,oM 14 t180,oM 13 t183,oM 12 t184,oM 11 t185,oM 10 t186,oM 9 t189]))))) (rg 131 [oP 190 (.bi .add t131 (vI 1)),oM 131 t190])))))
def zba_b4:IQ:=(.loop [0,199,200] (.seq (rg 201 [oP 201 (.bi .lss t200 (vI 8))]) (.seq (.cond t201 .skip (.cn [] (.exit 8))) (.seq (.block 9 (.seq (rg 21 [oM 202 t200,oP 203 (.ext (.aix 8) [t199,t200]),oM 20 t202,oM 21 t203]) (.reg 0 (some [0,1,2,3,4,5,6,7,8,9,10,11]) [oM 204 t0,oM 205 t20,oP 206 (.nk t204),oP 207 (.faddr 9 t206),oP 208 (.ext (.pidx 8 1) [t207,t205]),oP 209 (.load none t208),oM 210 t21,oP 211 (.bi .add t209 t210),oP 212 (.nk t204),oP 213 (.faddr 9 t212),oP 214 (.ext (.pidx 8 1) [t213,t205]),oN (.store 1 t214 t211)]))) (rg 200 [oP 215 (.bi .add t200 (vI 1)),oM 200 t215])))))
def zba_q:IQ:=(.join [] [] (.seq (rg 2 [oP 2 (.alloc 90 (List.replicate 80 (.int .u64 0)))]) (.seq (.seq (rg 22 [oP 22 (.mv (vI 0))]) (.block 0 (.cn [0,2,22] (.sub 0 zba_b0)))) (.seq (.seq (rg 6 [oP 6 (.mv (vI 16))]) (.block 4 (.cn [0,2,6] (.sub 2 zba_b2)))) (.seq (.reg 16 (some [0,1,2,3,4,5,6,7,8,9,10,11,12,13,14,15,16,17,18,19,20,21,22,23,24,25,26,27,28,29,30,31,32,33,34,35,36,37,38,39,40,41,42,43,44,45,46,47]) [oM 91 t0,oP 92 (.nk t91),oP 93 (.faddr 9 t92),oP 94 (.faddr 0 t93),oP 95 (.load none t94),oM 96 t0,oP 97 (.nk t96),oP 98 (.faddr 9 t97),oP 99 (.faddr 1 t98),oP 100 (.load none t99),oM 101 t0,oP 102 (.nk t101),oP 103 (.faddr 9 t102),oP 104 (.faddr 2 t103),oP 105 (.load none t104),oM 106 t0,oP 107 (.nk t106),oP 108 (.faddr 9 t107),oP 109 (.faddr 3 t108),oP 110 (.load none t109),oM 111 t0,oP 112 (.nk t111),oP 113 (.faddr 9 t112),oP 114 (.faddr 4 t113),oP 115 (.load none t114),oM 116 t0,oP 117 (.nk t116),oP 118 (.faddr 9 t117),oP 119 (.faddr 5 t118),oP 120 (.load none t119),oM 121 t0,oP 122 (.nk t121),oP 123 (.faddr 9 t122),oP 124 (.faddr 6 t123),oP 125 (.load none t124),oM 126 t0,oP 127 (.nk t126),oP 128 (.faddr 9 t127),oP 129 (.faddr 7 t128),oP 130 (.load none t129),oM 9 t95,oM 10 t100,oM 11 t105,oM 12 t110,oM 13 t115,oM 14 t120,oM 15 t125,oM 16 t130]) (.seq (.seq (rg 131 [oP 131 (.mv (vI 0))]) (.block 6 (.cn [0,2,9,10,11,12,13,14,15,16,131] (.sub 3 zba_b3)))) (.seq (rg 200 [oM 191 t9,oM 192 t10,oM 193 t11,oM 194 t12,oM 195 t13,oM 196 t14,oM 197 t15,oM 198 t16,oP 199 (.build [.int .u64 0,.int .u64 0,.int .u64 0,.int .u64 0,.int .u64 0,.int .u64 0,.int .u64 0,.int .u64 0] [(0,1,t191),(1,1,t192),(2,1,t193),(3,1,t194),(4,1,t195),(5,1,t196),(6,1,t197),(7,1,t198)]),oP 200 (.mv (vI 0))]) (.block 8 (.cn [0,199,200] (.sub 4 zba_b4))))))))))
def qFc (i:Int) (x33_lo x33_n:Nat) (x34_ x35_:Int) (s_rest w_v:List Int):Option ((Int × (List Int)) ⊕ ((List Int))) :=
 bif decide (x35_<x34_) then (
  gd (0≤x35_∧x35_<((x33_n:Nat):Int)∧x33_lo+x33_n≤128) <|
  gd ((x33_lo+Int.toNat x35_)<128) <|
  gd (0≤i∧i<((80:Nat):Int)) <|
  gd ((Int.toNat i)<80) <|
  gd (0≤(8:Int)) <|
  gd (0≤i∧i<((80:Nat):Int)) <|
  gd ((Int.toNat i)<80) <|
  gd (qAc (x35_+(1:Int))) <|
  some (.inl ((x35_+(1:Int)),((nrm 80 w_v).set (Int.toNat i) (qBf .u64 ((((nrm 80 w_v).getD (Int.toNat i) 0)*256) % 18446744073709551616) (((nrm 128 s_rest).getD (x33_lo+Int.toNat x35_) 0) % 18446744073709551616))))))
 else (
  some (.inr w_v))
def zba_p1 (i:Int) (x33_lo x33_n:Nat) (x34_ x35_:Int) (s_rest w_v:List Int):Option ((List Int)) :=
 qAn (fun x:(Int × (List Int))=>qFc i x33_lo x33_n x34_ x.1 s_rest x.2) (x35_,w_v)
def qDv (x22_:Int) (s_short s_long s_rest w_v:List Int):Option ((Int × (List Int) × (List Int) × (List Int) × (List Int)) ⊕ ((List Int) × (List Int) × (List Int) × (List Int))) :=
 bif decide (x22_<(16:Int)) then (
  gd (qAc ((8:Int)*x22_)) <|
  gd (qAc ((8:Int)*x22_)) <|
  gd (qAc (((8:Int)*x22_)+(8:Int))) <|
  gd (0≤((8:Int)*x22_)∧((8:Int)*x22_)≤(((8:Int)*x22_)+(8:Int))∧(((8:Int)*x22_)+(8:Int))≤((128:Nat):Int)) <|
  (zba_p1 x22_ (Int.toNat ((8:Int)*x22_)) ((Int.toNat (((8:Int)*x22_)+(8:Int))) - (Int.toNat ((8:Int)*x22_))) ((((Int.toNat (((8:Int)*x22_)+(8:Int))) - (Int.toNat ((8:Int)*x22_))):Nat):Int) (0:Int) (nrm 128 s_rest) (nrm 80 w_v)).bind fun o178 =>
  gd (qAc (x22_+(1:Int))) <|
  some (.inl ((x22_+(1:Int)),(nrm 8 s_short),(nrm 8 s_long),(nrm 128 s_rest),o178)))
 else (
  some (.inr (s_short,s_long,s_rest,w_v)))
def zba_p0 (x22_:Int) (s_short s_long s_rest w_v:List Int):Option ((List Int) × (List Int) × (List Int) × (List Int)) :=
 qAn (fun x:(Int × (List Int) × (List Int) × (List Int) × (List Int))=>qDv x.1 x.2.1 x.2.2.1 x.2.2.2.1 x.2.2.2.2) (x22_,s_short,s_long,s_rest,w_v)
def qFd (i:Int) (w_v:List Int):Option ((Int × (List Int)) ⊕ ((List Int))) :=
 bif decide (i<(80:Int)) then (
  gd (qAc (i - (15:Int))) <|
  gd (0≤(i - (15:Int))∧(i - (15:Int))<((80:Nat):Int)) <|
  gd ((Int.toNat (i - (15:Int)))<80) <|
  gd (qAc (i - (2:Int))) <|
  gd (0≤(i - (2:Int))∧(i - (2:Int))<((80:Nat):Int)) <|
  gd ((Int.toNat (i - (2:Int)))<80) <|
  gd (qAc (i - (16:Int))) <|
  gd (0≤(i - (16:Int))∧(i - (16:Int))<((80:Nat):Int)) <|
  gd ((Int.toNat (i - (16:Int)))<80) <|
  gd (qAc (i - (7:Int))) <|
  gd (0≤(i - (7:Int))∧(i - (7:Int))<((80:Nat):Int)) <|
  gd ((Int.toNat (i - (7:Int)))<80) <|
  gd (0≤(7:Int)) <|
  gd (0≤(6:Int)) <|
  (zat_s ((nrm 80 w_v).getD (Int.toNat (i - (15:Int))) 0) (-1:Int)).bind fun r180 =>
  (zat_s ((nrm 80 w_v).getD (Int.toNat (i - (15:Int))) 0) (-8:Int)).bind fun r181 =>
  (zat_s ((nrm 80 w_v).getD (Int.toNat (i - (2:Int))) 0) (-19:Int)).bind fun r182 =>
  (zat_s ((nrm 80 w_v).getD (Int.toNat (i - (2:Int))) 0) (-61:Int)).bind fun r183 =>
  gd (0≤i∧i<((80:Nat):Int)) <|
  gd ((Int.toNat i)<80) <|
  gd (qAc (i+(1:Int))) <|
  some (.inl ((i+(1:Int)),((nrm 80 w_v).set (Int.toNat i) ((((((((nrm 80 w_v).getD (Int.toNat (i - (16:Int))) 0)+((nrm 80 w_v).getD (Int.toNat (i - (7:Int))) 0)) % 18446744073709551616)+(qAj .u64 (qAj .u64 r180 r181) (((nrm 80 w_v).getD (Int.toNat (i - (15:Int))) 0) / 128))) % 18446744073709551616)+(qAj .u64 (qAj .u64 r182 r183) (((nrm 80 w_v).getD (Int.toNat (i - (2:Int))) 0) / 64))) % 18446744073709551616)))))
 else (
  some (.inr w_v))
def zba_p2 (i:Int) (w_v:List Int):Option ((List Int)) :=
 qAn (fun x:(Int × (List Int))=>qFd x.1 x.2) (i,w_v)
def qFe (a b c d e f g h x131_:Int) (w_v:List Int):Option ((Int × Int × Int × Int × Int × Int × Int × Int × Int) ⊕ (Int × Int × Int × Int × Int × Int × Int × Int)) :=
 bif decide (x131_<(80:Int)) then (
  gd (0≤x131_∧x131_<((80:Nat):Int)) <|
  gd (((0)+(Int.toNat x131_)*1)<shaK512.length) <|
  gd (0≤x131_∧x131_<((80:Nat):Int)) <|
  gd ((Int.toNat x131_)<80) <|
  (zat_s e (-14:Int)).bind fun r185 =>
  (zat_s e (-18:Int)).bind fun r186 =>
  (zat_s e (-41:Int)).bind fun r187 =>
  (zat_s a (-28:Int)).bind fun r188 =>
  (zat_s a (-34:Int)).bind fun r189 =>
  (zat_s a (-39:Int)).bind fun r190 =>
  gd (qAc (x131_+(1:Int))) <|
  some (.inl (((((((((((h+(qAj .u64 (qAj .u64 r185 r186) r187)) % 18446744073709551616)+(qAj .u64 g (qAg .u64 e (qAj .u64 f g)))) % 18446744073709551616)+(shaK512.getD ((0)+(Int.toNat x131_)*1) 0)) % 18446744073709551616)+((nrm 80 w_v).getD (Int.toNat x131_) 0)) % 18446744073709551616)+(((qAj .u64 (qAj .u64 r188 r189) r190)+(qBf .u64 (qAg .u64 a b) (qAg .u64 c (qBf .u64 a b)))) % 18446744073709551616)) % 18446744073709551616),a,b,c,((d+((((((((h+(qAj .u64 (qAj .u64 r185 r186) r187)) % 18446744073709551616)+(qAj .u64 g (qAg .u64 e (qAj .u64 f g)))) % 18446744073709551616)+(shaK512.getD ((0)+(Int.toNat x131_)*1) 0)) % 18446744073709551616)+((nrm 80 w_v).getD (Int.toNat x131_) 0)) % 18446744073709551616)) % 18446744073709551616),e,f,g,(x131_+(1:Int)))))
 else (
  some (.inr (a,b,c,d,e,f,g,h)))
def zba_p3 (a b c d e f g h x131_:Int) (w_v:List Int):Option (Int × Int × Int × Int × Int × Int × Int × Int) :=
 qAn (fun x:(Int × Int × Int × Int × Int × Int × Int × Int × Int)=>qFe x.1 x.2.1 x.2.2.1 x.2.2.2.1 x.2.2.2.2.1 x.2.2.2.2.2.1 x.2.2.2.2.2.2.1 x.2.2.2.2.2.2.2.1 x.2.2.2.2.2.2.2.2 w_v) (a,b,c,d,e,f,g,h,x131_)
def qFf (x1990_ x1991_ x1992_ x1993_ x1994_ x1995_ x1996_ x1997_ x200_:Int) (s_long:List Int):Option ((Int × (List Int)) ⊕ ((List Int))) :=
 bif decide (x200_<(8:Int)) then (
  gd (0≤x200_∧x200_<((8:Nat):Int)) <|
  gd (0≤x200_∧x200_<((8:Nat):Int)) <|
  gd ((Int.toNat x200_)<8) <|
  gd (0≤x200_∧x200_<((8:Nat):Int)) <|
  gd ((Int.toNat x200_)<8) <|
  gd (qAc (x200_+(1:Int))) <|
  some (.inl ((x200_+(1:Int)),((nrm 8 s_long).set (Int.toNat x200_) ((((nrm 8 s_long).getD (Int.toNat x200_) 0)+((nrm 8 ([x1990_,x1991_,x1992_,x1993_,x1994_,x1995_,x1996_,x1997_]:List Int)).getD (Int.toNat x200_) 0)) % 18446744073709551616)))))
 else (
  some (.inr s_long))
def zba_p4 (x1990_ x1991_ x1992_ x1993_ x1994_ x1995_ x1996_ x1997_ x200_:Int) (s_long:List Int):Option ((List Int)) :=
 qAn (fun x:(Int × (List Int))=>qFf x1990_ x1991_ x1992_ x1993_ x1994_ x1995_ x1996_ x1997_ x.1 x.2) (x200_,s_long)
def zba_s (s:qGv):Option qGv :=
 (zba_p0 (0:Int) (nrm 8 s.short) (nrm 8 s.long) (nrm 128 s.rest) (nrm 80 ([]:List Int))).bind fun o179 =>
 (zba_p2 (16:Int) (nrm 80 o179.2.2.2)).bind fun o184 =>
 (zba_p3 ((nrm 8 o179.2.1).getD 0 0) ((nrm 8 o179.2.1).getD 1 0) ((nrm 8 o179.2.1).getD 2 0) ((nrm 8 o179.2.1).getD 3 0) ((nrm 8 o179.2.1).getD 4 0) ((nrm 8 o179.2.1).getD 5 0) ((nrm 8 o179.2.1).getD 6 0) ((nrm 8 o179.2.1).getD 7 0) (0:Int) (nrm 80 o184)).bind fun o191 =>
 (zba_p4 o191.1 o191.2.1 o191.2.2.1 o191.2.2.2.1 o191.2.2.2.2.1 o191.2.2.2.2.2.1 o191.2.2.2.2.2.2.1 o191.2.2.2.2.2.2.2 (0:Int) (nrm 8 (nrm 8 (nrm 8 o179.2.1)))).bind fun o192 =>
 some (⟨s.hash,(nrm 8 (nrm 8 (nrm 8 o179.1))),o192,(nrm 128 (nrm 128 (nrm 128 o179.2.2.1))),s.n⟩:qGv)
def zba_G:Nat→Option CQ:=tblQ [(73,zat_w)]
def zDHA2:=(qAa zDHA1 (qAa (qAy 90 (dSpr .u64 80 dNil)) dNil))
def zba_d1:=(dQS (qAa (dSO 0 (dH 0 0)) (qAa (dSO 2 (dH 1 0)) (qAa (dSO 3 dZ) (qAa (dSO 22 dZ) (qAa (dSO 33 (dAsl 0 17 128)) (qAa (dSO 34 dZ) (qAa (dSO 35 dZ) dNil))))))) zDHA2)
def zba_l1:SubQ:=mkL zba_d1 (fun x=>zba_p1 x.1.2.2.1 x.1.2.2.2.2.1.1 x.1.2.2.2.2.1.2 x.1.2.2.2.2.2.1 x.1.2.2.2.2.2.2.1 x.2.1.2.2.2.1 x.2.2.1.1) fun x r R kn kx kr=>kx 2 ⟨[sL 0 (.hd 0 0),sL 2 (.hd 1 0),sL 22 (.vI x.1.2.2.2.1)],[],[.cells 86 ([.vI x.2.1.1]++(spr .u32 8 x.2.1.2.1++(spr .u64 8 x.2.1.2.2.1++(spr .u8 128 x.2.1.2.2.2.1++([.val (.int .u64 x.2.1.2.2.2.2.1)]))))),.cells 90 (spr .u64 80 r)]⟩
def zba_d0:=(dQS (qAa (dSO 0 (dH 0 0)) (qAa (dSO 2 (dH 1 0)) (qAa (dSO 22 dZ) dNil))) zDHA2)
def zba_l0:SubQ:=mkL zba_d0 (fun x=>zba_p0 x.1.2.2.1 x.2.1.2.1 x.2.1.2.2.1 x.2.1.2.2.2.1 x.2.2.1.1) fun x r R kn kx kr=>kx 0 ⟨[sL 0 (.hd 0 0),sL 2 (.hd 1 0)],[],[.cells 86 ([.vI x.2.1.1]++(spr .u32 8 r.1++(spr .u64 8 r.2.1++(spr .u8 128 r.2.2.1++([.val (.int .u64 x.2.1.2.2.2.2.1)]))))),.cells 90 (spr .u64 80 r.2.2.2)]⟩
def zba_d2:=(dQS (qAa (dSO 0 (dH 0 0)) (qAa (dSO 2 (dH 1 0)) (qAa (dSO 6 dZ) dNil))) zDHA2)
def zba_l2:SubQ:=mkL zba_d2 (fun x=>zba_p2 x.1.2.2.1 x.2.2.1.1) fun x r R kn kx kr=>kx 4 ⟨[sL 0 (.hd 0 0),sL 2 (.hd 1 0)],[],[.cells 86 ([.vI x.2.1.1]++(spr .u32 8 x.2.1.2.1++(spr .u64 8 x.2.1.2.2.1++(spr .u8 128 x.2.1.2.2.2.1++([.val (.int .u64 x.2.1.2.2.2.2.1)]))))),.cells 90 (spr .u64 80 r)]⟩
def zba_d3:=(dQS (qAa (dSO 0 (dH 0 0)) (qAa (dSO 2 (dH 1 0)) (qAa (dSO 9 (dI .u64)) (qAa (dSO 10 (dI .u64)) (qAa (dSO 11 (dI .u64)) (qAa (dSO 12 (dI .u64)) (qAa (dSO 13 (dI .u64)) (qAa (dSO 14 (dI .u64)) (qAa (dSO 15 (dI .u64)) (qAa (dSO 16 (dI .u64)) (qAa (dSO 131 dZ) dNil))))))))))) zDHA2)
def zba_l3:SubQ:=mkL zba_d3 (fun x=>zba_p3 x.1.2.2.1 x.1.2.2.2.1 x.1.2.2.2.2.1 x.1.2.2.2.2.2.1 x.1.2.2.2.2.2.2.1 x.1.2.2.2.2.2.2.2.1 x.1.2.2.2.2.2.2.2.2.1 x.1.2.2.2.2.2.2.2.2.2.1 x.1.2.2.2.2.2.2.2.2.2.2.1 x.2.2.1.1) fun x r R kn kx kr=>kx 6 ⟨[sL 0 (.hd 0 0),(9,[],.c (.o (.val (.int .u64 r.1)))),(10,[],.c (.o (.val (.int .u64 r.2.1)))),(11,[],.c (.o (.val (.int .u64 r.2.2.1)))),(12,[],.c (.o (.val (.int .u64 r.2.2.2.1)))),(13,[],.c (.o (.val (.int .u64 r.2.2.2.2.1)))),(14,[],.c (.o (.val (.int .u64 r.2.2.2.2.2.1)))),(15,[],.c (.o (.val (.int .u64 r.2.2.2.2.2.2.1)))),(16,[],.c (.o (.val (.int .u64 r.2.2.2.2.2.2.2))))],[],[.cells 86 ([.vI x.2.1.1]++(spr .u32 8 x.2.1.2.1++(spr .u64 8 x.2.1.2.2.1++(spr .u8 128 x.2.1.2.2.2.1++([.val (.int .u64 x.2.1.2.2.2.2.1)])))))]⟩
def zba_d4:=(dQS (qAa (dSO 0 (dH 0 0)) (qAa (dSl 199 (dVC (dCA (qAa (dI .u64) (qAa (dI .u64) (qAa (dI .u64) (qAa (dI .u64) (qAa (dI .u64) (qAa (dI .u64) (qAa (dI .u64) (qAa (dI .u64) dNil))))))))))) (qAa (dSO 200 dZ) dNil))) (qAa zDHA1 dNil))
def zba_l4:SubQ:=mkL zba_d4 (fun x=>zba_p4 x.1.2.1.1 x.1.2.1.2.1 x.1.2.1.2.2.1 x.1.2.1.2.2.2.1 x.1.2.1.2.2.2.2.1 x.1.2.1.2.2.2.2.2.1 x.1.2.1.2.2.2.2.2.2.1 x.1.2.1.2.2.2.2.2.2.2.1 x.1.2.2.1 x.2.1.2.2.1) fun x r R kn kx kr=>kx 8 ⟨[],[],[.cells 86 ([.vI x.2.1.1]++(spr .u32 8 x.2.1.2.1++(spr .u64 8 r++(spr .u8 128 x.2.1.2.2.2.1++([.val (.int .u64 x.2.1.2.2.2.2.1)])))))]⟩
def zba_L:Nat→SubQ:=tblL [(1,zba_l1),(0,zba_l0),(2,zba_l2),(3,zba_l3),(4,zba_l4)]
theorem zba_sub1:qA2 zba_L zba_G 1 201 216 1 zba_b1:=qAm (show zba_L 1=zba_l1 from by kernel_rfl) fun x R kn kx kr=>qAf (step:=fun y=>qFc x.1.2.2.1 x.1.2.2.2.2.1.1 x.1.2.2.2.2.1.2 x.1.2.2.2.2.2.1 y.1 x.2.1.2.2.2.1 y.2) (enc:=fun (y:Int × (List Int))=>zba_d1.e ((x.1.1,x.1.2.1,x.1.2.2.1,x.1.2.2.2.1,x.1.2.2.2.2.1,x.1.2.2.2.2.2.1,y.1,x.1.2.2.2.2.2.2.2),(x.2.1,(y.2,x.2.2.1.2),x.2.2.2))) (fun y=>by kernel_rfl) (fun y ki=>by simp only [qFc,-eq_self,sZ]; kernel_rfl) (x.1.2.2.2.2.2.2.1,x.2.2.1.1)
theorem zba_sub0:qA2 zba_L zba_G 1 201 216 0 zba_b0:=qAm (show zba_L 0=zba_l0 from by kernel_rfl) fun x R kn kx kr=>qAf (step:=fun y=>qDv y.1 y.2.1 y.2.2.1 y.2.2.2.1 y.2.2.2.2) (enc:=fun (y:Int × (List Int) × (List Int) × (List Int) × (List Int))=>zba_d0.e ((x.1.1,x.1.2.1,y.1,x.1.2.2.2),((x.2.1.1,y.2.1,y.2.2.1,y.2.2.2.1,x.2.1.2.2.2.2),(y.2.2.2.2,x.2.2.1.2),x.2.2.2))) (fun y=>by kernel_rfl) (fun y ki=>by simp only [qDv,-eq_self,sZ]; kernel_rfl) (x.1.2.2.1,x.2.1.2.1,x.2.1.2.2.1,x.2.1.2.2.2.1,x.2.2.1.1)
theorem zba_sub2:qA2 zba_L zba_G 1 201 216 2 zba_b2:=qAm (show zba_L 2=zba_l2 from by kernel_rfl) fun x R kn kx kr=>qAf (step:=fun y=>qFd y.1 y.2) (enc:=fun (y:Int × (List Int))=>zba_d2.e ((x.1.1,x.1.2.1,y.1,x.1.2.2.2),(x.2.1,(y.2,x.2.2.1.2),x.2.2.2))) (fun y=>by kernel_rfl) (fun y ki=>by simp only [qFd,-eq_self,sZ]; kernel_rfl) (x.1.2.2.1,x.2.2.1.1)
theorem zba_sub3:qA2 zba_L zba_G 1 201 216 3 zba_b3:=qAm (show zba_L 3=zba_l3 from by kernel_rfl) fun x R kn kx kr=>qAf (step:=fun y=>qFe y.1 y.2.1 y.2.2.1 y.2.2.2.1 y.2.2.2.2.1 y.2.2.2.2.2.1 y.2.2.2.2.2.2.1 y.2.2.2.2.2.2.2.1 y.2.2.2.2.2.2.2.2 x.2.2.1.1) (enc:=fun (y:Int × Int × Int × Int × Int × Int × Int × Int × Int)=>zba_d3.e ((x.1.1,x.1.2.1,y.1,y.2.1,y.2.2.1,y.2.2.2.1,y.2.2.2.2.1,y.2.2.2.2.2.1,y.2.2.2.2.2.2.1,y.2.2.2.2.2.2.2.1,y.2.2.2.2.2.2.2.2,x.1.2.2.2.2.2.2.2.2.2.2.2),x.2)) (fun y=>by kernel_rfl) (fun y ki=>by simp only [qFe,-eq_self,sZ]; kernel_rfl) (x.1.2.2.1,x.1.2.2.2.1,x.1.2.2.2.2.1,x.1.2.2.2.2.2.1,x.1.2.2.2.2.2.2.1,x.1.2.2.2.2.2.2.2.1,x.1.2.2.2.2.2.2.2.2.1,x.1.2.2.2.2.2.2.2.2.2.1,x.1.2.2.2.2.2.2.2.2.2.2.1)
theorem zba_sub4:qA2 zba_L zba_G 1 201 216 4 zba_b4:=qAm (show zba_L 4=zba_l4 from by kernel_rfl) fun x R kn kx kr=>qAf (step:=fun y=>qFf x.1.2.1.1 x.1.2.1.2.1 x.1.2.1.2.2.1 x.1.2.1.2.2.2.1 x.1.2.1.2.2.2.2.1 x.1.2.1.2.2.2.2.2.1 x.1.2.1.2.2.2.2.2.2.1 x.1.2.1.2.2.2.2.2.2.2.1 y.1 y.2) (enc:=fun (y:Int × (List Int))=>zba_d4.e ((x.1.1,x.1.2.1,y.1,x.1.2.2.2),((x.2.1.1,x.2.1.2.1,y.2,x.2.1.2.2.2),x.2.2))) (fun y=>by kernel_rfl) (fun y ki=>by simp only [qFf,-eq_self,sZ]; kernel_rfl) (x.1.2.2.1,x.2.1.2.2.1)
def zba_c:CS:=mkC (qAa (dVC (dCO (dH 0 0))) dNil) (qAa zDHA1 dNil) (fun x y=>zba_s (zYHA0 y)) (fun x y r=>.tup []) fun x y r=>[.cells 86 ([.vI r.hash]++(spr .u32 8 r.short++(spr .u64 8 r.long++(spr .u8 128 r.rest++([.val (.int .u64 r.n)])))))]
theorem zba_val:qAl Tryd.prog 66 zba_c:=vl1 zba_q [] 216 201 1 (show qA8 zba_L zba_G 1 201 216 [(0,zba_b0),(1,zba_b1),(2,zba_b2),(3,zba_b3),(4,zba_b4)] from ⟨zba_sub0,zba_sub1,zba_sub2,zba_sub3,zba_sub4,tV⟩) (qAs ⟨zat_ok,tV⟩) fun x y=>by
 simp only [zba_s,-eq_self,sZ];kernel_rfl
def zba_w:CQ:=qDb [true] zba_c
theorem zba_ok:qAi Tryd.prog 66 zba_w:=qB3 zba_val
def zay_q:IQ:=(.join [] [] (.seq (rg 6 (rF 2 t0 0++[oP 6 (.bi .eql t5 (vI 1))])) (.cond t6 (rg 8 [oM 7 t0,oP 8 (.call 65 [t7])]) (rg 10 [oM 9 t0,oP 10 (.call 66 [t9])]))))
def zay_s (s:qGv):Option qGv :=
 bif decide (s.hash=(1:Int)) then (
  (zaz_s (⟨s.hash,(nrm 8 s.short),(nrm 8 s.long),(nrm 128 s.rest),s.n⟩:qGv)).bind fun r2 =>
  some r2)
 else (
  (zba_s (⟨s.hash,(nrm 8 s.short),(nrm 8 s.long),(nrm 128 s.rest),s.n⟩:qGv)).bind fun r3 =>
  some r3)
def zay_c:CS:=mkC (qAa (dVC (dCO (dH 0 0))) dNil) (qAa zDHA1 dNil) (fun x y=>zay_s (zYHA0 y)) (fun x y r=>.tup []) fun x y r=>[.cells 86 ([.vI r.hash]++(spr .u32 8 r.short++(spr .u64 8 r.long++(spr .u8 128 r.rest++([.val (.int .u64 r.n)])))))]
theorem zay_val:qAl Tryd.prog 52 zay_c:=vl0 zay_q [] 11 2 1 [(65,zaz_w),(66,zba_w)] ⟨zaz_ok,zba_ok,tV⟩ fun x y=>by
 simp only [zay_s,-eq_self,sZ];kernel_rfl
def zay_w:CQ:=qDb [true] zay_c
theorem zay_ok:qAi Tryd.prog 52 zay_w:=qB3 zay_val
def zax_b0:IQ:=(.loop [0,1,4] (.join [(1000001,none,.u8,0)] [0,1,4] (.seq (.seq (rg 14 [oM 12 t1,oP 13 (.len t12),oP 14 (.bi .gtr t13 (vI 0))]) (.cond t14 .skip (.cn [] (.exit 0)))) (.block 1 (.seq (rg 5 (rF 15 t0 145++[oM 19 t4,oP 20 (.conv false .u64 t19),oP 21 (.bi .rem t18 t20),oP 22 (.conv false .i64 t21),oM 5 t22])) (.seq (rg 6 [oM 23 t0,oP 24 (.nk t23),oP 25 (.faddr 17 t24),oM 26 t5,oM 27 t4,oP 28 (.ext (.asub 128) [t25,t26,t27]),oM 29 t1,oP 30 (.ext .copyA [t28,t29]),oM 6 t30]) (.seq (rg 0 (rF 31 t0 145++[oM 35 t6,oP 36 (.conv false .u64 t35),oP 37 (.bi .add t34 t36)]++rS 38 t31 145 t37)) (.seq (rg 1 [oM 40 t1,oM 41 t6,oP 42 (.sub (some 1) t40 (some t41) none),oM 1 t42]) (.seq (rg 47 [oM 43 t5,oM 44 t6,oP 45 (.bi .add t43 t44),oM 46 t4,oP 47 (.bi .eql t45 t46)]) (.cond t47 (rg 49 [oM 48 t0,oP 49 (.call 52 [t48])]) .skip))))))))))
def zax_q:IQ:=(.join [] [] (.seq (rg 4 (rF 7 t0 0++[oP 11 (.call 51 [t10]),oM 4 t11])) (.block 0 (.canon [(1000001,none,.u8,0)] [0,1,4] (.sub 0 zax_b0)))))
def qDu (size s_hash:Int) (s_short s_long s_rest:List Int) (s_n:Int) (b2:List Int):Option ((Int × (List Int) × (List Int) × (List Int) × Int × (List Int)) ⊕ (Int × (List Int) × (List Int) × (List Int) × Int)) :=
 bif decide ((0:Int)<(b2.length:Int)) then (
  gd (0≤s_n∧1≤(size % 18446744073709551616)) <|
  gd (qAc (s_n % (size % 18446744073709551616))) <|
  gd (0≤(s_n % (size % 18446744073709551616))∧(s_n % (size % 18446744073709551616))≤size∧size≤((128:Nat):Int)) <|
  gd ((Int.toNat (s_n % (size % 18446744073709551616)))+((Int.toNat size) - (Int.toNat (s_n % (size % 18446744073709551616))))≤128) <|
  gd (0≤(((min b2.length ((Int.toNat size) - (Int.toNat (s_n % (size % 18446744073709551616))))):Nat):Int)∧(((min b2.length ((Int.toNat size) - (Int.toNat (s_n % (size % 18446744073709551616))))):Nat):Int)≤(b2.length:Int)∧(b2.length:Int)≤b2.length) <|
  gd (qAc ((s_n % (size % 18446744073709551616))+(((min b2.length ((Int.toNat size) - (Int.toNat (s_n % (size % 18446744073709551616))))):Nat):Int))) <|
  bif decide (((s_n % (size % 18446744073709551616))+(((min b2.length ((Int.toNat size) - (Int.toNat (s_n % (size % 18446744073709551616))))):Nat):Int))=size) then (
   (zay_s (⟨s_hash,(nrm 8 s_short),(nrm 8 s_long),(nrm 128 ((nrm 128 s_rest).take (Int.toNat (s_n % (size % 18446744073709551616)))++(b2.take ((Int.toNat size) - (Int.toNat (s_n % (size % 18446744073709551616))))++(nrm 128 s_rest).drop ((Int.toNat (s_n % (size % 18446744073709551616)))+(min b2.length ((Int.toNat size) - (Int.toNat (s_n % (size % 18446744073709551616))))))))),((s_n+((((min b2.length ((Int.toNat size) - (Int.toNat (s_n % (size % 18446744073709551616))))):Nat):Int) % 18446744073709551616)) % 18446744073709551616)⟩:qGv)).bind fun r19 =>
   some (.inl (r19.hash,r19.short,r19.long,r19.rest,r19.n,((b2.take b2.length).drop (Int.toNat (((min b2.length ((Int.toNat size) - (Int.toNat (s_n % (size % 18446744073709551616))))):Nat):Int))))))
  else (
   some (.inl (s_hash,s_short,s_long,((nrm 128 s_rest).take (Int.toNat (s_n % (size % 18446744073709551616)))++(b2.take ((Int.toNat size) - (Int.toNat (s_n % (size % 18446744073709551616))))++(nrm 128 s_rest).drop ((Int.toNat (s_n % (size % 18446744073709551616)))+(min b2.length ((Int.toNat size) - (Int.toNat (s_n % (size % 18446744073709551616)))))))),((s_n+((((min b2.length ((Int.toNat size) - (Int.toNat (s_n % (size % 18446744073709551616))))):Nat):Int) % 18446744073709551616)) % 18446744073709551616),((b2.take b2.length).drop (Int.toNat (((min b2.length ((Int.toNat size) - (Int.toNat (s_n % (size % 18446744073709551616))))):Nat):Int)))))))
 else (
  some (.inr (s_hash,s_short,s_long,s_rest,s_n)))
def zax_p0 (size s_hash:Int) (s_short s_long s_rest:List Int) (s_n:Int) (b2:List Int):Option (Int × (List Int) × (List Int) × (List Int) × Int) :=
 qAn (fun x:(Int × (List Int) × (List Int) × (List Int) × Int × (List Int))=>qDu size x.1 x.2.1 x.2.2.1 x.2.2.2.1 x.2.2.2.2.1 x.2.2.2.2.2) (s_hash,s_short,s_long,s_rest,s_n,b2)
def zax_s (s:qGv) (b:(List Int)):Option qGv :=
 (zau_s s.hash).bind fun r18 =>
 (zax_p0 r18 s.hash (nrm 8 s.short) (nrm 8 s.long) (nrm 128 s.rest) s.n b).bind fun o20 =>
 some (⟨o20.1,o20.2.1,o20.2.2.1,o20.2.2.2.1,o20.2.2.2.2⟩:qGv)
def zax_G:Nat→Option CQ:=tblQ [(51,zau_w),(52,zay_w)]
def zax_d0:=(dQS (qAa (dSO 0 (dH 0 0)) (qAa (dSO 1 (dO 2)) (qAa (dSO 4 dZ) dNil))) (qAa zDHA1 (qAa (qAt .u8) (qAa (qAt .u8) dNil))))
def zax_l0:SubQ:=mkL zax_d0 (fun x=>zax_p0 x.1.2.2.1 x.2.1.1 x.2.1.2.1 x.2.1.2.2.1 x.2.1.2.2.2.1 x.2.1.2.2.2.2.1 x.2.2.2.1) fun x r R kn kx kr=>kx 0 ⟨[],[],[.cells 86 ([.vI r.1]++(spr .u32 8 r.2.1++(spr .u64 8 r.2.2.1++(spr .u8 128 r.2.2.2.1++([.val (.int .u64 r.2.2.2.2)]))))),.view .u8 x.2.2.1]⟩
def zax_L:Nat→SubQ:=tblL [(0,zax_l0)]
theorem zax_sub0:qA2 zax_L zax_G 2 7 50 0 zax_b0:=qAm (show zax_L 0=zax_l0 from by kernel_rfl) fun x R kn kx kr=>qAf (step:=fun y=>qDu x.1.2.2.1 y.1 y.2.1 y.2.2.1 y.2.2.2.1 y.2.2.2.2.1 y.2.2.2.2.2) (enc:=fun (y:Int × (List Int) × (List Int) × (List Int) × Int × (List Int))=>zax_d0.e (x.1,((y.1,y.2.1,y.2.2.1,y.2.2.2.1,y.2.2.2.2.1,x.2.1.2.2.2.2.2),x.2.2.1,y.2.2.2.2.2,x.2.2.2.2))) (fun y=>by kernel_rfl) (fun y ki=>by simp only [qDu,-eq_self,sZ]; kernel_rfl) (x.2.1.1,x.2.1.2.1,x.2.1.2.2.1,x.2.1.2.2.2.1,x.2.1.2.2.2.2.1,x.2.2.2.1)
def zax_c:CS:=mkC (qAa (dVC (dCO (dH 0 0))) (qAa (dVC (dCO (dO 1))) dNil)) (qAa zDHA1 (qAa (qAt .u8) dNil)) (fun x y=>zax_s (⟨y.1.1,y.1.2.1,y.1.2.2.1,y.1.2.2.2.1,y.1.2.2.2.2.1⟩:qGv) y.2.1) (fun x y r=>.tup []) fun x y r=>[.cells 86 ([.vI r.hash]++(spr .u32 8 r.short++(spr .u64 8 r.long++(spr .u8 128 r.rest++([.val (.int .u64 r.n)]))))),.view .u8 y.2.1]
theorem zax_val:qAl Tryd.prog 36 zax_c:=vl1 zax_q [] 50 7 2 (show qA8 zax_L zax_G 2 7 50 [(0,zax_b0)] from ⟨zax_sub0,tV⟩) (qAs ⟨zau_ok,zay_ok,tV⟩) fun x y=>by
 simp only [zax_s,-eq_self,sZ];kernel_rfl
def zax_w:CQ:=qBk [(1,none,some (.u8,5))] (qDb [true,false] zax_c)
theorem zax_ok:qAi Tryd.prog 36 zax_w:=qBd zax_val
def zaw_b0:IQ:=(.loop [3,4,5,6,7] (.seq (.seq (rg 40 [oM 27 t5,oM 28 t4,oP 29 (.conv false .u64 t28),oP 30 (.bi .rem t27 t29),oP 31 (.conv false .i64 t30),oM 32 t7,oP 33 (.len t32),oP 34 (.bi .add t31 t33),oM 35 t4,oP 36 (.bi .rem t34 t35),oM 37 t4,oM 38 t6,oP 39 (.bi .sub t37 t38),oP 40 (.bi .neq t36 t39)]) (.cond t40 .skip (.cn [3,5,6,7] (.exit 0)))) (.block 1 (rg 7 [oM 41 t7,oP 42 (.bslice 5 1 1 [.int .u8 0] [(0,(vC 0))]),oP 43 (.append 5 1 1 [.int .u8 0] t41 t42),oM 7 t43]))))
def zaw_b1:IQ:=(.loop [3,5,7,8] (.seq (.seq (rg 47 [oM 46 t8,oP 47 (.bi .geq t46 (vI 0))]) (.cond t47 .skip (.cn [3,7] (.exit 2)))) (.seq (.block 3 (.seq (rg 9 [oP 9 (.mv (vC 0))]) (.seq (.block 4 (.seq (rg 50 [oM 51 t8,oP 52 (.bi .lss t51 (vI 8)),oM 50 t52]) (.cond t50 (rg 9 [oM 53 t5,oP 54 (.bi .shl t53 (.v (.int .u64 3))),oM 55 t8,oP 56 (.bi .mul (vI 8) t55),oP 57 (.bi .shr t54 t56),oP 58 (.conv false .u8 t57),oM 9 t58]) (.seq (rg 59 [oM 60 t8,oP 61 (.bi .eql t60 (vI 8)),oM 59 t61]) (.cond t59 (rg 9 [oM 62 t5,oP 63 (.bi .shr t62 (.v (.int .u64 61))),oP 64 (.conv false .u8 t63),oM 9 t64]) .skip))))) (rg 7 [oM 65 t7,oM 66 t9,oP 67 (.bslice 5 1 1 [.int .u8 0] [(0,t66)]),oP 68 (.append 5 1 1 [.int .u8 0] t65 t67),oM 7 t68])))) (rg 8 [oM 48 t8,oP 49 (.bi .sub t48 (vI 1)),oM 8 t49]))))
def zaw_b2:IQ:=(.loop [10,75,76] (.seq (rg 77 [oP 77 (.bi .lss t76 (vI 8))]) (.seq (.cond t77 .skip (.cn [10] (.exit 5))) (.seq (.block 6 (.seq (rg 12 [oP 78 (.ext (.aix 8) [t75,t76]),oM 12 t78]) (rg 10 [oM 79 t10,oM 80 t12,oP 81 (.bi .shr t80 (.v (.int .u64 24))),oP 82 (.conv false .u8 t81),oM 83 t12,oP 84 (.bi .shr t83 (.v (.int .u64 16))),oP 85 (.conv false .u8 t84),oM 86 t12,oP 87 (.bi .shr t86 (.v (.int .u64 8))),oP 88 (.conv false .u8 t87),oM 89 t12,oP 90 (.conv false .u8 t89),oP 91 (.bslice 5 1 4 [.int .u8 0] [(0,t82),(1,t85),(2,t88),(3,t90)]),oP 92 (.append 5 1 1 [.int .u8 0] t79 t91),oM 10 t92]))) (rg 76 [oP 93 (.bi .add t76 (vI 1)),oM 76 t93])))))
def zaw_b4:IQ:=(.loop [3,10,14,15,96,97] (.seq (.seq (rg 101 [oM 100 t15,oP 101 (.bi .geq t100 (vI 0))]) (.cond t101 .skip (.cn [3,10,96,97] (.exit 9)))) (.seq (.block 10 (rg 10 [oM 104 t10,oM 105 t14,oM 106 t15,oP 107 (.bi .shr t105 t106),oP 108 (.conv false .u8 t107),oP 109 (.bslice 5 1 1 [.int .u8 0] [(0,t108)]),oP 110 (.append 5 1 1 [.int .u8 0] t104 t109),oM 10 t110])) (rg 15 [oM 102 t15,oP 103 (.bi .sub t102 (vI 8)),oM 15 t103]))))
def zaw_b3:IQ:=(.loop [3,10,96,97] (.seq (rg 98 [oP 98 (.bi .lss t97 (vI 8))]) (.seq (.cond t98 .skip (.cn [3,10] (.exit 7))) (.seq (.block 8 (.seq (rg 14 [oP 99 (.ext (.aix 8) [t96,t97]),oM 14 t99]) (.seq (rg 15 [oP 15 (.mv (vI 56))]) (.block 9 (.canon [(10,none,.u8,5)] [3,10,14,15,96,97] (.sub 4 zaw_b4)))))) (rg 97 [oP 111 (.bi .add t97 (vI 1)),oM 97 t111])))))
def zaw_q:IQ:=(.seq (rg 2 [oP 2 (.mv (.v (.slice none 0 0)))]) (.seq (rg 0 [oM 16 t0,oP 17 (.nk t16),oP 18 (.load (some 146) t17),oP 3 (.alloc 86 ([.int .i64 0]++List.replicate 8 (.int .u32 0)++List.replicate 8 (.int .u64 0)++List.replicate 128 (.int .u8 0)++[.int .u64 0])),oN (.store 146 t3 t18)]) (.seq (.reg 5 (some [0,1,3,4,2,5,6]) [oP 19 (.faddr 0 t3),oP 20 (.load none t19),oP 22 (.faddr 145 t3),oP 23 (.load none t22),oP 21 (.call 51 [t20]),oM 4 t21,oM 5 t23]) (.seq (rg 6 [oM 24 t4,oP 25 (.bi .quo t24 (vI 8)),oM 6 t25]) (.seq (rg 7 [oP 26 (.bslice 5 1 1 [.int .u8 0] [(0,(vC 128))]),oM 7 t26]) (.seq (.block 0 (.cn [3,4,5,6,7] (.sub 0 zaw_b0))) (.seq (.seq (rg 8 [oM 44 t6,oP 45 (.bi .sub t44 (vI 1)),oM 8 t45]) (.block 2 (.cn [3,5,7,8] (.sub 1 zaw_b1)))) (.seq (rg 70 [oM 69 t7,oP 70 (.call 36 [t3,t69])]) (.seq (rg 10 [oP 10 (.mv (.v (.slice none 0 0)))]) (.seq (.seq (rg 73 [oP 71 (.faddr 0 t3),oP 72 (.load none t71),oP 73 (.bi .eql t72 (vI 1))]) (.cond t73 (.seq (.seq (rg 76 [oP 74 (.faddr 1 t3),oP 75 (.load (some 8) t74),oP 76 (.mv (vI 0))]) (.block 5 (.canon [(10,none,.u8,5)] [10,75,76] (.sub 2 zaw_b2)))) (.seq (rg 2 [oM 94 t10,oM 2 t94]) (.canon [(2,none,.u8,5),(6000002,none,.u8,5)] [2] .ret))) .skip)) (.seq (.seq (rg 97 [oP 95 (.faddr 9 t3),oP 96 (.load (some 8) t95),oP 97 (.mv (vI 0))]) (.block 7 (.canon [(10,none,.u8,5)] [3,10,96,97] (.sub 3 zaw_b3)))) (.seq (.reg 2 (some [0,1,2,4,5,3,6,7,8]) [oM 112 t10,oP 113 (.faddr 0 t3),oP 114 (.load none t113),oP 116 (.faddr 0 t3),oP 117 (.load none t116),oP 115 (.call 17 [t114]),oP 118 (.call 17 [t117]),oP 119 (.ext (.sub3 1) [t112,(vI 0),t115,t118]),oM 2 t119]) (.canon [(2,none,.u8,5),(6000002,none,.u8,5)] [2] .ret)))))))))))))
def qDs (size n field:Int) (pad:List Int):Option (((List Int)) ⊕ ((List Int))) :=
 gd (0≤n∧1≤(size % 18446744073709551616)) <|
 gd (qAc (n % (size % 18446744073709551616))) <|
 gd (qAc ((n % (size % 18446744073709551616))+(pad.length:Int))) <|
 gd (0≤((n % (size % 18446744073709551616))+(pad.length:Int))∧1≤size) <|
 gd (qAc (size - field)) <|
 bif (!decide ((((n % (size % 18446744073709551616))+(pad.length:Int)) % size)=(size - field))) then (
  gd (pad.length+([(0:Int)]:List Int).length≤9223372036854775807∧(pad.length+([(0:Int)]:List Int).length)*1≤140737488355328) <|
  some (.inl (pad++[(0:Int)])))
 else (
  some (.inr pad))
def zaw_p0 (size n field:Int) (pad:List Int):Option ((List Int)) :=
 qAn (fun x:((List Int))=>qDs size n field x) pad
def qE6 (n i:Int) (pad:List Int):Option ((Int × (List Int)) ⊕ ((List Int))) :=
 bif decide ((0:Int)≤i) then (
  bif decide (i<(8:Int)) then (
   gd (0≤(3:Int)) <|
   gd (qAc ((8:Int)*i)) <|
   gd (0≤((8:Int)*i)) <|
   gd (pad.length+([((((n*8) % 18446744073709551616) / 2 ^ (min (Int.toNat ((8:Int)*i)) (IntKind.bits .u64))) % 256)]:List Int).length≤9223372036854775807∧(pad.length+([((((n*8) % 18446744073709551616) / 2 ^ (min (Int.toNat ((8:Int)*i)) (IntKind.bits .u64))) % 256)]:List Int).length)*1≤140737488355328) <|
   gd (qAc (i - (1:Int))) <|
   some (.inl ((i - (1:Int)),(pad++[((((n*8) % 18446744073709551616) / 2 ^ (min (Int.toNat ((8:Int)*i)) (IntKind.bits .u64))) % 256)]))))
  else (
   bif decide (i=(8:Int)) then (
    gd (0≤(61:Int)) <|
    gd (pad.length+([((n / 2305843009213693952) % 256)]:List Int).length≤9223372036854775807∧(pad.length+([((n / 2305843009213693952) % 256)]:List Int).length)*1≤140737488355328) <|
    gd (qAc (i - (1:Int))) <|
    some (.inl ((i - (1:Int)),(pad++[((n / 2305843009213693952) % 256)]))))
   else (
    gd (pad.length+([(0:Int)]:List Int).length≤9223372036854775807∧(pad.length+([(0:Int)]:List Int).length)*1≤140737488355328) <|
    gd (qAc (i - (1:Int))) <|
    some (.inl ((i - (1:Int)),(pad++[(0:Int)]))))))
 else (
  some (.inr pad))
def zaw_p1 (n i:Int) (pad:List Int):Option ((List Int)) :=
 qAn (fun x:(Int × (List Int))=>qE6 n x.1 x.2) (i,pad)
def qE7 (x750_:List Int) (x76_:Int) (out:List Int):Option ((Int × (List Int)) ⊕ ((List Int))) :=
 bif decide (x76_<(8:Int)) then (
  gd (0≤x76_∧x76_<((8:Nat):Int)) <|
  gd (0≤(24:Int)) <|
  gd (0≤(16:Int)) <|
  gd (0≤(8:Int)) <|
  gd (out.length+([((((nrm 8 x750_).getD (Int.toNat x76_) 0) / 16777216) % 256),((((nrm 8 x750_).getD (Int.toNat x76_) 0) / 65536) % 256),((((nrm 8 x750_).getD (Int.toNat x76_) 0) / 256) % 256),(((nrm 8 x750_).getD (Int.toNat x76_) 0) % 256)]:List Int).length≤9223372036854775807∧(out.length+([((((nrm 8 x750_).getD (Int.toNat x76_) 0) / 16777216) % 256),((((nrm 8 x750_).getD (Int.toNat x76_) 0) / 65536) % 256),((((nrm 8 x750_).getD (Int.toNat x76_) 0) / 256) % 256),(((nrm 8 x750_).getD (Int.toNat x76_) 0) % 256)]:List Int).length)*1≤140737488355328) <|
  gd (qAc (x76_+(1:Int))) <|
  some (.inl ((x76_+(1:Int)),(out++[((((nrm 8 x750_).getD (Int.toNat x76_) 0) / 16777216) % 256),((((nrm 8 x750_).getD (Int.toNat x76_) 0) / 65536) % 256),((((nrm 8 x750_).getD (Int.toNat x76_) 0) / 256) % 256),(((nrm 8 x750_).getD (Int.toNat x76_) 0) % 256)]))))
 else (
  some (.inr out))
def zaw_p2 (x750_:List Int) (x76_:Int) (out:List Int):Option ((List Int)) :=
 qAn (fun x:(Int × (List Int))=>qE7 x750_ x.1 x.2) (x76_,out)
def qDt (v i:Int) (out:List Int):Option ((Int × (List Int)) ⊕ ((List Int))) :=
 bif decide ((0:Int)≤i) then (
  gd (0≤i) <|
  gd (out.length+([((v / 2 ^ (min (Int.toNat i) (IntKind.bits .u64))) % 256)]:List Int).length≤9223372036854775807∧(out.length+([((v / 2 ^ (min (Int.toNat i) (IntKind.bits .u64))) % 256)]:List Int).length)*1≤140737488355328) <|
  gd (qAc (i - (8:Int))) <|
  some (.inl ((i - (8:Int)),(out++[((v / 2 ^ (min (Int.toNat i) (IntKind.bits .u64))) % 256)]))))
 else (
  some (.inr out))
def zaw_p4 (v i:Int) (out:List Int):Option ((List Int)) :=
 qAn (fun x:(Int × (List Int))=>qDt v x.1 x.2) (i,out)
def qCx (x960_:List Int) (x97_:Int) (s_short s_long s_rest c_short c_long c_rest out:List Int):Option (((List Int) × Int × (List Int) × (List Int) × (List Int) × (List Int) × (List Int) × (List Int) × (List Int)) ⊕ ((List Int) × (List Int) × (List Int) × (List Int) × (List Int) × (List Int) × (List Int))) :=
 bif decide (x97_<(8:Int)) then (
  gd (0≤x97_∧x97_<((8:Nat):Int)) <|
  (zaw_p4 ((nrm 8 x960_).getD (Int.toNat x97_) 0) (56:Int) out).bind fun o103 =>
  gd (qAc (x97_+(1:Int))) <|
  some (.inl ((nrm 8 x960_),(x97_+(1:Int)),(nrm 8 s_short),(nrm 8 s_long),(nrm 128 s_rest),(nrm 8 c_short),(nrm 8 c_long),(nrm 128 c_rest),o103)))
 else (
  some (.inr (s_short,s_long,s_rest,c_short,c_long,c_rest,out)))
def zaw_p3 (x960_:List Int) (x97_:Int) (s_short s_long s_rest c_short c_long c_rest out:List Int):Option ((List Int) × (List Int) × (List Int) × (List Int) × (List Int) × (List Int) × (List Int)) :=
 qAn (fun x:((List Int) × Int × (List Int) × (List Int) × (List Int) × (List Int) × (List Int) × (List Int) × (List Int))=>qCx x.1 x.2.1 x.2.2.1 x.2.2.2.1 x.2.2.2.2.1 x.2.2.2.2.2.1 x.2.2.2.2.2.2.1 x.2.2.2.2.2.2.2.1 x.2.2.2.2.2.2.2.2) (x960_,x97_,s_short,s_long,s_rest,c_short,c_long,c_rest,out)
def zaw_s (s:qGv):Option (qGv × (List Int)) :=
 (zau_s s.hash).bind fun r98 =>
 gd (0≤r98∧r98≤9223372036854775807∧1≤(8:Int)) <|
 (zaw_p0 r98 s.n (r98 / (8:Int)) [(128:Int)]).bind fun o99 =>
 gd (qAc ((r98 / (8:Int)) - (1:Int))) <|
 (zaw_p1 s.n ((r98 / (8:Int)) - (1:Int)) o99).bind fun o100 =>
 (zax_s (⟨s.hash,(nrm 8 (nrm 8 (nrm 8 s.short))),(nrm 8 (nrm 8 (nrm 8 s.long))),(nrm 128 (nrm 128 (nrm 128 s.rest))),s.n⟩:qGv) o100).bind fun r101 =>
 bif decide (r101.hash=(1:Int)) then (
  (zaw_p2 (nrm 8 r101.short) (0:Int) []).bind fun o102 =>
  some ((⟨s.hash,(nrm 8 (nrm 8 (nrm 8 s.short))),(nrm 8 (nrm 8 (nrm 8 s.long))),(nrm 128 (nrm 128 (nrm 128 s.rest))),s.n⟩:qGv),o102))
 else (
  (zaw_p3 (nrm 8 r101.long) (0:Int) (nrm 8 (nrm 8 (nrm 8 s.short))) (nrm 8 (nrm 8 (nrm 8 s.long))) (nrm 128 (nrm 128 (nrm 128 s.rest))) (nrm 8 r101.short) (nrm 8 r101.long) (nrm 128 r101.rest) []).bind fun o104 =>
  (zav_s r101.hash).bind fun r105 =>
  (zav_s r101.hash).bind fun r106 =>
  gd ((0:Int)=0∧0≤r105∧r105≤r106∧r106≤o104.2.2.2.2.2.2.length) <|
  some ((⟨s.hash,o104.1,o104.2.1,o104.2.2.1,s.n⟩:qGv),(o104.2.2.2.2.2.2.take (Int.toNat r105))))
def zaw_G:Nat→Option CQ:=tblQ [(51,zau_w),(36,zax_w),(17,zav_w)]
def zDHA3:=(qAa zDHA1 (qAa (dRow .u8 5) dNil))
def zaw_d0:=(dQS (qAa (dSO 3 (dH 1 0)) (qAa (dSO 4 dZ) (qAa (dSO 5 (dI .u64)) (qAa (dSO 6 dZ) (qAa (dSO 7 (dO 2)) dNil))))) (qAa zDHA1 zDHA3))
def zaw_l0:SubQ:=mkL zaw_d0 (fun x=>zaw_p0 x.1.2.1 x.1.2.2.1 x.1.2.2.2.1 x.2.2.2.1) fun x r R kn kx kr=>kx 0 ⟨[sL 3 (.hd 1 0),(5,[],.c (.o (.val (.int .u64 x.1.2.2.1)))),sL 6 (.vI x.1.2.2.2.1),sL 7 (.own 2)],[],[.cells 86 ([.vI x.2.1.1]++(spr .u32 8 x.2.1.2.1++(spr .u64 8 x.2.1.2.2.1++(spr .u8 128 x.2.1.2.2.2.1++([.val (.int .u64 x.2.1.2.2.2.2.1)]))))),.cells 86 ([.vI x.2.2.1.1]++(spr .u32 8 x.2.2.1.2.1++(spr .u64 8 x.2.2.1.2.2.1++(spr .u8 128 x.2.2.1.2.2.2.1++([.val (.int .u64 x.2.2.1.2.2.2.2.1)]))))),.row .u8 5 r]⟩
def zaw_d1:=(dQS (qAa (dSO 3 (dH 1 0)) (qAa (dSO 5 (dI .u64)) (qAa (dSO 7 (dO 2)) (qAa (dSO 8 dZ) dNil)))) (qAa zDHA1 zDHA3))
def zaw_l1:SubQ:=mkL zaw_d1 (fun x=>zaw_p1 x.1.2.1 x.1.2.2.2.1 x.2.2.2.1) fun x r R kn kx kr=>kx 2 ⟨[sL 3 (.hd 1 0),sL 7 (.own 2)],[],[.cells 86 ([.vI x.2.1.1]++(spr .u32 8 x.2.1.2.1++(spr .u64 8 x.2.1.2.2.1++(spr .u8 128 x.2.1.2.2.2.1++([.val (.int .u64 x.2.1.2.2.2.2.1)]))))),.cells 86 ([.vI x.2.2.1.1]++(spr .u32 8 x.2.2.1.2.1++(spr .u64 8 x.2.2.1.2.2.1++(spr .u8 128 x.2.2.1.2.2.2.1++([.val (.int .u64 x.2.2.1.2.2.2.2.1)]))))),.row .u8 5 r]⟩
def zaw_d2:=(dQS (qAa (dSO 10 (dO 1)) (qAa (dSl 75 (dVC (dCA (dSpr .u32 8 dNil)))) (qAa (dSO 76 dZ) dNil))) zDHA3)
def zaw_l2:SubQ:=mkL zaw_d2 (fun x=>zaw_p2 x.1.2.1.1 x.1.2.2.1 x.2.2.1) fun x r R kn kx kr=>kx 5 ⟨[sL 10 (.own 1)],[],[.cells 86 ([.vI x.2.1.1]++(spr .u32 8 x.2.1.2.1++(spr .u64 8 x.2.1.2.2.1++(spr .u8 128 x.2.1.2.2.2.1++([.val (.int .u64 x.2.1.2.2.2.2.1)]))))),.row .u8 5 r]⟩
def zaw_d4:=(dQS (qAa (dSO 3 (dH 1 0)) (qAa (dSO 10 (dO 2)) (qAa (dSO 14 (dI .u64)) (qAa (dSO 15 dZ) (qAa (dSl 96 (dVC (dCA (dSpr .u64 8 dNil)))) (qAa (dSO 97 dZ) dNil)))))) (qAa zDHA1 zDHA3))
def zaw_l4:SubQ:=mkL zaw_d4 (fun x=>zaw_p4 x.1.2.2.1 x.1.2.2.2.1 x.2.2.2.1) fun x r R kn kx kr=>kx 9 ⟨[sL 3 (.hd 1 0),sL 10 (.own 2),(96,[],.c (.agg (spr .u64 8 x.1.2.2.2.2.1.1))),sL 97 (.vI x.1.2.2.2.2.2.1)],[],[.cells 86 ([.vI x.2.1.1]++(spr .u32 8 x.2.1.2.1++(spr .u64 8 x.2.1.2.2.1++(spr .u8 128 x.2.1.2.2.2.1++([.val (.int .u64 x.2.1.2.2.2.2.1)]))))),.cells 86 ([.vI x.2.2.1.1]++(spr .u32 8 x.2.2.1.2.1++(spr .u64 8 x.2.2.1.2.2.1++(spr .u8 128 x.2.2.1.2.2.2.1++([.val (.int .u64 x.2.2.1.2.2.2.2.1)]))))),.row .u8 5 r]⟩
def zaw_d3:=(dQS (qAa (dSO 3 (dH 1 0)) (qAa (dSO 10 (dO 2)) (qAa (dSl 96 (dVC (dCA (dSpr .u64 8 dNil)))) (qAa (dSO 97 dZ) dNil)))) (qAa zDHA1 zDHA3))
def zaw_l3:SubQ:=mkL zaw_d3 (fun x=>zaw_p3 x.1.2.2.1.1 x.1.2.2.2.1 x.2.1.2.1 x.2.1.2.2.1 x.2.1.2.2.2.1 x.2.2.1.2.1 x.2.2.1.2.2.1 x.2.2.1.2.2.2.1 x.2.2.2.1) fun x r R kn kx kr=>kx 7 ⟨[sL 3 (.hd 1 0),sL 10 (.own 2)],[],[.cells 86 ([.vI x.2.1.1]++(spr .u32 8 r.1++(spr .u64 8 r.2.1++(spr .u8 128 r.2.2.1++([.val (.int .u64 x.2.1.2.2.2.2.1)]))))),.cells 86 ([.vI x.2.2.1.1]++(spr .u32 8 r.2.2.2.1++(spr .u64 8 r.2.2.2.2.1++(spr .u8 128 r.2.2.2.2.2.1++([.val (.int .u64 x.2.2.1.2.2.2.2.1)]))))),.row .u8 5 r.2.2.2.2.2.2]⟩
def zaw_L:Nat→SubQ:=tblL [(0,zaw_l0),(1,zaw_l1),(2,zaw_l2),(4,zaw_l4),(3,zaw_l3)]
theorem zaw_sub0:qA2 zaw_L zaw_G 1 98 120 0 zaw_b0:=qAm (show zaw_L 0=zaw_l0 from by kernel_rfl) fun x R kn kx kr=>qAf (step:=fun y=>qDs x.1.2.1 x.1.2.2.1 x.1.2.2.2.1 y) (enc:=fun (y:(List Int))=>zaw_d0.e (x.1,(x.2.1,x.2.2.1,y,x.2.2.2.2))) (fun y=>by kernel_rfl) (fun y ki=>by simp only [qDs,-eq_self,sZ]; kernel_rfl) x.2.2.2.1
theorem zaw_sub1:qA2 zaw_L zaw_G 1 98 120 1 zaw_b1:=qAm (show zaw_L 1=zaw_l1 from by kernel_rfl) fun x R kn kx kr=>qAf (step:=fun y=>qE6 x.1.2.1 y.1 y.2) (enc:=fun (y:Int × (List Int))=>zaw_d1.e ((x.1.1,x.1.2.1,x.1.2.2.1,y.1,x.1.2.2.2.2),(x.2.1,x.2.2.1,y.2,x.2.2.2.2))) (fun y=>by kernel_rfl) (fun y ki=>by simp only [qE6,-eq_self,sZ]; kernel_rfl) (x.1.2.2.2.1,x.2.2.2.1)
theorem zaw_sub2:qA2 zaw_L zaw_G 1 98 120 2 zaw_b2:=qAm (show zaw_L 2=zaw_l2 from by kernel_rfl) fun x R kn kx kr=>qAf (step:=fun y=>qE7 x.1.2.1.1 y.1 y.2) (enc:=fun (y:Int × (List Int))=>zaw_d2.e ((x.1.1,x.1.2.1,y.1,x.1.2.2.2),(x.2.1,y.2,x.2.2.2))) (fun y=>by kernel_rfl) (fun y ki=>by simp only [qE7,-eq_self,sZ]; kernel_rfl) (x.1.2.2.1,x.2.2.1)
theorem zaw_sub4:qA2 zaw_L zaw_G 1 98 120 4 zaw_b4:=qAm (show zaw_L 4=zaw_l4 from by kernel_rfl) fun x R kn kx kr=>qAf (step:=fun y=>qDt x.1.2.2.1 y.1 y.2) (enc:=fun (y:Int × (List Int))=>zaw_d4.e ((x.1.1,x.1.2.1,x.1.2.2.1,y.1,x.1.2.2.2.2),(x.2.1,x.2.2.1,y.2,x.2.2.2.2))) (fun y=>by kernel_rfl) (fun y ki=>by simp only [qDt,-eq_self,sZ]; kernel_rfl) (x.1.2.2.2.1,x.2.2.2.1)
theorem zaw_sub3:qA2 zaw_L zaw_G 1 98 120 3 zaw_b3:=qAm (show zaw_L 3=zaw_l3 from by kernel_rfl) fun x R kn kx kr=>qAf (step:=fun y=>qCx y.1 y.2.1 y.2.2.1 y.2.2.2.1 y.2.2.2.2.1 y.2.2.2.2.2.1 y.2.2.2.2.2.2.1 y.2.2.2.2.2.2.2.1 y.2.2.2.2.2.2.2.2) (enc:=fun (y:(List Int) × Int × (List Int) × (List Int) × (List Int) × (List Int) × (List Int) × (List Int) × (List Int))=>zaw_d3.e ((x.1.1,x.1.2.1,(y.1,x.1.2.2.1.2),y.2.1,x.1.2.2.2.2),((x.2.1.1,y.2.2.1,y.2.2.2.1,y.2.2.2.2.1,x.2.1.2.2.2.2),(x.2.2.1.1,y.2.2.2.2.2.1,y.2.2.2.2.2.2.1,y.2.2.2.2.2.2.2.1,x.2.2.1.2.2.2.2),y.2.2.2.2.2.2.2.2,x.2.2.2.2))) (fun y=>by kernel_rfl) (fun y ki=>by simp only [qCx,-eq_self,sZ]; kernel_rfl) (x.1.2.2.1.1,x.1.2.2.2.1,x.2.1.2.1,x.2.1.2.2.1,x.2.1.2.2.2.1,x.2.2.1.2.1,x.2.2.1.2.2.1,x.2.2.1.2.2.2.1,x.2.2.2.1)
def zaw_c:CS:=mkC (qAa (dVC (dCO (dH 0 0))) dNil) (qAa zDHA1 dNil) (fun x y=>zaw_s (zYHA0 y)) (fun x y r=>.c (.o (.own 1))) fun x y r=>[.cells 86 ([.vI r.1.hash]++(spr .u32 8 r.1.short++(spr .u64 8 r.1.long++(spr .u8 128 r.1.rest++([.val (.int .u64 r.1.n)]))))),.vrow .u8 r.2]
theorem zaw_val:qAl Tryd.prog 37 zaw_c:=vl1 zaw_q [.tmp 2] 120 98 1 (show qA8 zaw_L zaw_G 1 98 120 [(0,zaw_b0),(1,zaw_b1),(2,zaw_b2),(3,zaw_b3),(4,zaw_b4)] from ⟨zaw_sub0,zaw_sub1,zaw_sub2,zaw_sub3,zaw_sub4,tV⟩) (qAs ⟨zau_ok,zax_ok,zav_ok,tV⟩) fun x y=>by
 simp only [zaw_s,-eq_self,sZ];kernel_rfl
def zaw_w:CQ:=qDb [true] zaw_c
theorem zaw_ok:qAi Tryd.prog 37 zaw_w:=qB3 zaw_val
end
def itr {S:Type} (g:S→S):Nat→S→S
 | 0,s=>s
 | n+1,s=>itr g n (g s)
theorem qBm {S R:Type} {step:S→Option (S ⊕ R)} (c:S→Int) (g:S→S) (out:S→R) (I:S→Prop) (n:Int) (hs:∀s,I s→c s<n→step s=some (.inl (g s))∧c (g s)=c s+1∧I (g s))
  (he:∀s,I s→n≤c s→step s=some (.inr (out s))):∀(k:Nat) (s:S),I s→(n - c s).toNat=k→qAn step s=some (out (itr g k s))
 | 0,s,h0,hk=>qAe (he s h0 (by omega))
 | k+1,s,h0,hk=>by
  obtain ⟨h1,h2,h3⟩:=hs s h0 (by omega);rw [qAh h1];exact qBm c g out I n hs he k (g s) h3 (by omega)
theorem qBh (n:Nat) (l:List Int):(nrm n l).length=n:=by
 have:∀n i,(nrmI l n i).length=n:=by
  intro n;induction n with
  | zero=>intro i; rfl
  | succ n ih=>intro i; simp [nrmI,ih]
 exact this n 0
theorem nrmI_eq (l:List Int):∀n i,i+n=l.length→nrmI l n i=l.drop i
 | 0,i,h=>by rw [List.drop_eq_nil_of_le (by omega)]; rfl
 | n+1,i,h=>by
  have h1:i<l.length:=by omega
  rw [nrmI,nrmI_eq l n (i+1) (by omega),List.drop_eq_getElem_cons h1,List.getD_eq_getElem?_getD,List.getElem?_eq_getElem h1];rfl
theorem qC8 {n:Nat} {l:List Int} (h:l.length=n):nrm n l=l:=by
 unfold nrm;rw [nrmI_eq l n 0 (by omega),List.drop_zero]
@[simp] theorem qBs (n:Nat) (l:List Int):nrm n (nrm n l)=nrm n l:=qC8 (qBh n l)
def qCu (x_:Int) (k_:Int):Int:=qBf .u32 ((x_*2 ^ (min (Int.toNat (qAg .u64 (k_ % 18446744073709551616) (31:Int))) (IntKind.bits .u32))) % 4294967296) (x_ / 2 ^ (min (Int.toNat (((32:Int) - (qAg .u64 (k_ % 18446744073709551616) (31:Int))) % 18446744073709551616)) (IntKind.bits .u32)))
def qCv (x_:Int) (k_:Int):Int:=qBf .u64 ((x_*2 ^ (min (Int.toNat (qAg .u64 (k_ % 18446744073709551616) (63:Int))) (IntKind.bits .u64))) % 18446744073709551616) (x_ / 2 ^ (min (Int.toNat (((64:Int) - (qAg .u64 (k_ % 18446744073709551616) (63:Int))) % 18446744073709551616)) (IntKind.bits .u64)))
theorem bitAnd64 (x y:Int):0≤qAg .u64 x y:=by
 unfold qAg;rw [u64_eq];exact Int.emod_nonneg _ (by decide)
theorem p_rot32 (x k:Int):zas_s x k=some (qCu x k):=by
 unfold zas_s;exact (qAb (bitAnd64 _ _) _).trans (qAb (Int.emod_nonneg _ (by decide)) _)
theorem p_rot64 (x k:Int):zat_s x k=some (qCv x k):=by
 unfold zat_s;exact (qAb (bitAnd64 _ _) _).trans (qAb (Int.emod_nonneg _ (by decide)) _)
def s32A (x21_:Int) (s_rest:List Int) (w_v:List Int):(Int × (List Int)) :=
 ((x21_+(1:Int)),((nrm 64 w_v).set (Int.toNat x21_) (qBf .u32 (qBf .u32 (qBf .u32 (((((nrm 128 s_rest).getD ((Int.toNat ((4:Int)*x21_))+0) 0) % 4294967296)*16777216) % 4294967296) (((((nrm 128 s_rest).getD ((Int.toNat ((4:Int)*x21_))+1) 0) % 4294967296)*65536) % 4294967296)) (((((nrm 128 s_rest).getD ((Int.toNat ((4:Int)*x21_))+2) 0) % 4294967296)*256) % 4294967296)) (((nrm 128 s_rest).getD ((Int.toNat ((4:Int)*x21_))+3) 0) % 4294967296))))
def s32B (i:Int) (w_v:List Int):(Int × (List Int)) :=
 let r160:=qCu ((nrm 64 w_v).getD (Int.toNat (i - (15:Int))) 0) (-7:Int)
 let r161:=qCu ((nrm 64 w_v).getD (Int.toNat (i - (15:Int))) 0) (-18:Int)
 let r162:=qCu ((nrm 64 w_v).getD (Int.toNat (i - (2:Int))) 0) (-17:Int)
 let r163:=qCu ((nrm 64 w_v).getD (Int.toNat (i - (2:Int))) 0) (-19:Int)
 ((i+(1:Int)),((nrm 64 w_v).set (Int.toNat i) ((((((((nrm 64 w_v).getD (Int.toNat (i - (16:Int))) 0)+((nrm 64 w_v).getD (Int.toNat (i - (7:Int))) 0)) % 4294967296)+(qAj .u32 (qAj .u32 r160 r161) (((nrm 64 w_v).getD (Int.toNat (i - (15:Int))) 0) / 8))) % 4294967296)+(qAj .u32 (qAj .u32 r162 r163) (((nrm 64 w_v).getD (Int.toNat (i - (2:Int))) 0) / 1024))) % 4294967296)))
def s32C (a:Int) (b:Int) (c:Int) (d:Int) (e:Int) (f:Int) (g:Int) (h:Int) (x136_:Int) (w_v:List Int):(Int × Int × Int × Int × Int × Int × Int × Int × Int) :=
 let r165:=qCu e (-6:Int)
 let r166:=qCu e (-11:Int)
 let r167:=qCu e (-25:Int)
 let r168:=qCu a (-2:Int)
 let r169:=qCu a (-13:Int)
 let r170:=qCu a (-22:Int)
 (((((((((((h+(qAj .u32 (qAj .u32 r165 r166) r167)) % 4294967296)+(qAj .u32 g (qAg .u32 e (qAj .u32 f g)))) % 4294967296)+(shaK256.getD ((0)+(Int.toNat x136_)*1) 0)) % 4294967296)+((nrm 64 w_v).getD (Int.toNat x136_) 0)) % 4294967296)+(((qAj .u32 (qAj .u32 r168 r169) r170)+(qBf .u32 (qAg .u32 a b) (qAg .u32 c (qBf .u32 a b)))) % 4294967296)) % 4294967296),a,b,c,((d+((((((((h+(qAj .u32 (qAj .u32 r165 r166) r167)) % 4294967296)+(qAj .u32 g (qAg .u32 e (qAj .u32 f g)))) % 4294967296)+(shaK256.getD ((0)+(Int.toNat x136_)*1) 0)) % 4294967296)+((nrm 64 w_v).getD (Int.toNat x136_) 0)) % 4294967296)) % 4294967296),e,f,g,(x136_+(1:Int)))
def s32D (x2040_:Int) (x2041_:Int) (x2042_:Int) (x2043_:Int) (x2044_:Int) (x2045_:Int) (x2046_:Int) (x2047_:Int) (x205_:Int) (s_short:List Int):(Int × (List Int)) :=
 ((x205_+(1:Int)),((nrm 8 s_short).set (Int.toNat x205_) ((((nrm 8 s_short).getD (Int.toNat x205_) 0)+((nrm 8 ([x2040_,x2041_,x2042_,x2043_,x2044_,x2045_,x2046_,x2047_]:List Int)).getD (Int.toNat x205_) 0)) % 4294967296)))
theorem shaK256_len:shaK256.length=64:=by decide
theorem shaK512_len:shaK512.length=80:=by decide
theorem p_32A (i:Int) (h0:0≤i) (r w:List Int):zaz_p0 i r w=some (itr (fun x=>s32A x.1 r x.2) (16 - i).toNat (i,w)).2:=by
 unfold zaz_p0;refine qBm (fun x=>x.1) (fun x=>s32A x.1 r x.2) (fun x=>x.2) (fun x=>0≤x.1) 16 (fun x hi hn=>?_) (fun x hi hn=>?_) _ (i,w) h0 rfl
 ·refine ⟨?_,rfl,by show 0≤x.1+1; omega⟩;unfold qE8;rw [deT hn,cnT]
  repeat refine (qAb (by first | decide | (unfold qAc; omega) | omega) _).trans ?_
  rfl
 ·unfold qE8;rw [deF (by omega),cnF]
theorem p_32B (i:Int) (h0:16≤i) (w:List Int):zaz_p1 i w=some (itr (fun x=>s32B x.1 x.2) (64 - i).toNat (i,w)).2:=by
 unfold zaz_p1;refine qBm (fun x=>x.1) (fun x=>s32B x.1 x.2) (fun x=>x.2) (fun x=>16≤x.1) 64 (fun x hi hn=>?_) (fun x hi hn=>?_) _ (i,w) h0 rfl
 ·refine ⟨?_,rfl,by show 16≤x.1+1; omega⟩;unfold qE9;rw [deT hn,cnT]
  repeat refine (qAb (by first | decide | (unfold qAc; omega) | omega) _).trans ?_
  simp only [p_rot32,obS]
  repeat refine (qAb (by first | decide | (unfold qAc; omega) | omega) _).trans ?_
  rfl
 ·unfold qE9;rw [deF (by omega),cnF]
theorem p_32C (i:Int) (h0:0≤i) (w:List Int) (a b c d e f g h:Int):zaz_p2 a b c d e f g h i w=some ((fun x:Int × Int × Int × Int × Int × Int × Int × Int × Int=>(x.1,x.2.1,x.2.2.1,x.2.2.2.1,x.2.2.2.2.1,x.2.2.2.2.2.1,x.2.2.2.2.2.2.1,x.2.2.2.2.2.2.2.1)) (itr (fun x=>s32C x.1 x.2.1 x.2.2.1 x.2.2.2.1 x.2.2.2.2.1 x.2.2.2.2.2.1 x.2.2.2.2.2.2.1 x.2.2.2.2.2.2.2.1 x.2.2.2.2.2.2.2.2 w) (64 - i).toNat (a,b,c,d,e,f,g,h,i))):=by
 unfold zaz_p2;refine qBm (fun x=>x.2.2.2.2.2.2.2.2) (fun x=>s32C x.1 x.2.1 x.2.2.1 x.2.2.2.1 x.2.2.2.2.1 x.2.2.2.2.2.1 x.2.2.2.2.2.2.1 x.2.2.2.2.2.2.2.1 x.2.2.2.2.2.2.2.2 w) (fun x=>(x.1,x.2.1,x.2.2.1,x.2.2.2.1,x.2.2.2.2.1,x.2.2.2.2.2.1,x.2.2.2.2.2.2.1,x.2.2.2.2.2.2.2.1)) (fun x=>0≤x.2.2.2.2.2.2.2.2) 64 (fun x hi hn=>?_) (fun x hi hn=>?_) _ (a,b,c,d,e,f,g,h,i) h0 rfl
 ·refine ⟨?_,rfl,by show 0≤x.2.2.2.2.2.2.2.2+1; omega⟩;unfold qFa;rw [deT hn,cnT];refine (qAb ⟨hi,hn⟩ _).trans ((qAb (by rw [shaK256_len]; omega) _).trans ((qAb ⟨hi,hn⟩ _).trans ((qAb (by omega) _).trans ?_)));simp only [p_rot32,obS];exact qAb (by unfold qAc; omega) _
 ·unfold qFa;rw [deF (by omega),cnF]
theorem p_32D (i:Int) (h0:0≤i) (s:List Int) (a b c d e f g h:Int):zaz_p3 a b c d e f g h i s=some (itr (fun x=>s32D a b c d e f g h x.1 x.2) (8 - i).toNat (i,s)).2:=by
 unfold zaz_p3;refine qBm (fun x=>x.1) (fun x=>s32D a b c d e f g h x.1 x.2) (fun x=>x.2) (fun x=>0≤x.1) 8 (fun x hi hn=>?_) (fun x hi hn=>?_) _ (i,s) h0 rfl
 ·refine ⟨?_,rfl,by show 0≤x.1+1; omega⟩;unfold qFb;rw [deT hn,cnT]
  repeat refine (qAb (by first | (unfold qAc; omega) | omega) _).trans ?_
  rfl
 ·unfold qFb;rw [deF (by omega),cnF]
def wrd32 (r:List Int):List Int:=(itr (fun x=>s32B x.1 x.2) 48 (16,nrm 64 (itr (fun x=>s32A x.1 (nrm 128 r) x.2) 16 (0,nrm 64 [])).2)).2
def rnd32 (s w:List Int):Int × Int × Int × Int × Int × Int × Int × Int × Int:=itr (fun x=>s32C x.1 x.2.1 x.2.2.1 x.2.2.2.1 x.2.2.2.2.1 x.2.2.2.2.2.1 x.2.2.2.2.2.2.1 x.2.2.2.2.2.2.2.1 x.2.2.2.2.2.2.2.2 (nrm 64 w)) 64 ((nrm 8 s).getD 0 0,(nrm 8 s).getD 1 0,(nrm 8 s).getD 2 0,(nrm 8 s).getD 3 0,(nrm 8 s).getD 4 0,(nrm 8 s).getD 5 0,(nrm 8 s).getD 6 0,(nrm 8 s).getD 7 0,0)
def add32 (x:Int × Int × Int × Int × Int × Int × Int × Int × Int) (s:List Int):List Int:=(itr (fun y=>s32D x.1 x.2.1 x.2.2.1 x.2.2.2.1 x.2.2.2.2.1 x.2.2.2.2.2.1 x.2.2.2.2.2.2.1 x.2.2.2.2.2.2.2.1 y.1 y.2) 8 (0,nrm 8 s)).2
def blk32 (s:qGv):qGv:=⟨s.hash,add32 (rnd32 s.short (wrd32 s.rest)) s.short,nrm 8 s.long,nrm 128 s.rest,s.n⟩
theorem p_block32 (s:qGv):zaz_s s=some (blk32 s):=by
 unfold zaz_s;rw [p_32A _ (by omega)];simp only [obS,qBs];rw [p_32B _ (by omega)];simp only [obS];rw [p_32C _ (by omega)];simp only [obS];rw [p_32D _ (by omega)];kernel_rfl
def s64A (i:Int) (x33_lo:Nat) (x33_n:Nat) (x34_:Int) (x35_:Int) (s_rest:List Int) (w_v:List Int):(Int × (List Int)) :=
 ((x35_+(1:Int)),((nrm 80 w_v).set (Int.toNat i) (qBf .u64 ((((nrm 80 w_v).getD (Int.toNat i) 0)*256) % 18446744073709551616) (((nrm 128 s_rest).getD (x33_lo+Int.toNat x35_) 0) % 18446744073709551616))))
def s64B (i:Int) (w_v:List Int):(Int × (List Int)) :=
 let r180:=qCv ((nrm 80 w_v).getD (Int.toNat (i - (15:Int))) 0) (-1:Int)
 let r181:=qCv ((nrm 80 w_v).getD (Int.toNat (i - (15:Int))) 0) (-8:Int)
 let r182:=qCv ((nrm 80 w_v).getD (Int.toNat (i - (2:Int))) 0) (-19:Int)
 let r183:=qCv ((nrm 80 w_v).getD (Int.toNat (i - (2:Int))) 0) (-61:Int)
 ((i+(1:Int)),((nrm 80 w_v).set (Int.toNat i) ((((((((nrm 80 w_v).getD (Int.toNat (i - (16:Int))) 0)+((nrm 80 w_v).getD (Int.toNat (i - (7:Int))) 0)) % 18446744073709551616)+(qAj .u64 (qAj .u64 r180 r181) (((nrm 80 w_v).getD (Int.toNat (i - (15:Int))) 0) / 128))) % 18446744073709551616)+(qAj .u64 (qAj .u64 r182 r183) (((nrm 80 w_v).getD (Int.toNat (i - (2:Int))) 0) / 64))) % 18446744073709551616)))
def s64C (a:Int) (b:Int) (c:Int) (d:Int) (e:Int) (f:Int) (g:Int) (h:Int) (x131_:Int) (w_v:List Int):(Int × Int × Int × Int × Int × Int × Int × Int × Int) :=
 let r185:=qCv e (-14:Int)
 let r186:=qCv e (-18:Int)
 let r187:=qCv e (-41:Int)
 let r188:=qCv a (-28:Int)
 let r189:=qCv a (-34:Int)
 let r190:=qCv a (-39:Int)
 (((((((((((h+(qAj .u64 (qAj .u64 r185 r186) r187)) % 18446744073709551616)+(qAj .u64 g (qAg .u64 e (qAj .u64 f g)))) % 18446744073709551616)+(shaK512.getD ((0)+(Int.toNat x131_)*1) 0)) % 18446744073709551616)+((nrm 80 w_v).getD (Int.toNat x131_) 0)) % 18446744073709551616)+(((qAj .u64 (qAj .u64 r188 r189) r190)+(qBf .u64 (qAg .u64 a b) (qAg .u64 c (qBf .u64 a b)))) % 18446744073709551616)) % 18446744073709551616),a,b,c,((d+((((((((h+(qAj .u64 (qAj .u64 r185 r186) r187)) % 18446744073709551616)+(qAj .u64 g (qAg .u64 e (qAj .u64 f g)))) % 18446744073709551616)+(shaK512.getD ((0)+(Int.toNat x131_)*1) 0)) % 18446744073709551616)+((nrm 80 w_v).getD (Int.toNat x131_) 0)) % 18446744073709551616)) % 18446744073709551616),e,f,g,(x131_+(1:Int)))
def s64D (x1990_:Int) (x1991_:Int) (x1992_:Int) (x1993_:Int) (x1994_:Int) (x1995_:Int) (x1996_:Int) (x1997_:Int) (x200_:Int) (s_long:List Int):(Int × (List Int)) :=
 ((x200_+(1:Int)),((nrm 8 s_long).set (Int.toNat x200_) ((((nrm 8 s_long).getD (Int.toNat x200_) 0)+((nrm 8 ([x1990_,x1991_,x1992_,x1993_,x1994_,x1995_,x1996_,x1997_]:List Int)).getD (Int.toNat x200_) 0)) % 18446744073709551616)))
def w64A (r:List Int) (x:Int × List Int):Int × List Int:=(x.1+1,(itr (fun y=>s64A x.1 (8*x.1).toNat 8 8 y.1 r y.2) 8 (0,nrm 80 x.2)).2)
theorem p_64a (i:Int) (h0:0≤i) (h1:i<16) (r w:List Int):zba_p1 i (Int.toNat (8*i)) 8 8 0 r w=some (itr (fun y=>s64A i (8*i).toNat 8 8 y.1 r y.2) 8 (0,w)).2:=by
 unfold zba_p1;refine qBm (fun x=>x.1) (fun x=>s64A i (8*i).toNat 8 8 x.1 r x.2) (fun x=>x.2) (fun x=>0≤x.1) 8 (fun x hi hn=>?_) (fun x hi hn=>?_) _ (0,w) (Int.le_refl _) rfl
 ·refine ⟨?_,rfl,by show 0≤x.1+1; omega⟩;unfold qFc;rw [deT hn,cnT]
  repeat refine (qAb (by first | decide | (unfold qAc; omega) | omega) _).trans ?_
  rfl
 ·unfold qFc;rw [deF (by omega),cnF]
theorem p_64A (a l r w:List Int) (ha:a.length=8) (hl:l.length=8) (hr:r.length=128):zba_p0 0 a l r w=some (a,l,r,(itr (w64A r) 16 (0,w)).2):=by
 have key:∀(k:Nat) (i:Int) (w:List Int),0≤i→(16 - i).toNat=k→zba_p0 i a l r w=some (a,l,r,(itr (w64A r) k (i,w)).2):=by
  intro k;induction k with
  | zero =>
   intro i w h0 hk;unfold zba_p0;refine qAe ?_;unfold qDv;rw [deF (by omega),cnF];rfl
  | succ k ih =>
   intro i w h0 hk;have hst:qDv i a l r w=some (.inl (i+1,a,l,r,(w64A r (i,w)).2)):=by
    unfold qDv;rw [deT (by omega),cnT]
    repeat refine (qAb (by first | (unfold qAc; omega) | omega) _).trans ?_
    have e8:Int.toNat (8*i+8) - Int.toNat (8*i)=8:=by omega
    rw [e8,qC8 hr,show ((8:Nat):Int)=8 from rfl,p_64a i h0 (by omega),qC8 ha,qC8 hl];simp only [obS];exact qAb (by unfold qAc; omega) _
   have:=ih (i+1) (w64A r (i,w)).2 (by omega) (by omega);unfold zba_p0 at this ⊢;rw [qAh hst,this];rfl
 exact key 16 0 w (Int.le_refl _) rfl
theorem p_64B (i:Int) (h0:16≤i) (w:List Int):zba_p2 i w=some (itr (fun x=>s64B x.1 x.2) (80 - i).toNat (i,w)).2:=by
 unfold zba_p2;refine qBm (fun x=>x.1) (fun x=>s64B x.1 x.2) (fun x=>x.2) (fun x=>16≤x.1) 80 (fun x hi hn=>?_) (fun x hi hn=>?_) _ (i,w) h0 rfl
 ·refine ⟨?_,rfl,by show 16≤x.1+1; omega⟩;unfold qFd;rw [deT hn,cnT]
  repeat refine (qAb (by first | decide | (unfold qAc; omega) | omega) _).trans ?_
  simp only [p_rot64,obS]
  repeat refine (qAb (by first | decide | (unfold qAc; omega) | omega) _).trans ?_
  rfl
 ·unfold qFd;rw [deF (by omega),cnF]
theorem p_64C (i:Int) (h0:0≤i) (w:List Int) (a b c d e f g h:Int):zba_p3 a b c d e f g h i w=some ((fun x:Int × Int × Int × Int × Int × Int × Int × Int × Int=>(x.1,x.2.1,x.2.2.1,x.2.2.2.1,x.2.2.2.2.1,x.2.2.2.2.2.1,x.2.2.2.2.2.2.1,x.2.2.2.2.2.2.2.1)) (itr (fun x=>s64C x.1 x.2.1 x.2.2.1 x.2.2.2.1 x.2.2.2.2.1 x.2.2.2.2.2.1 x.2.2.2.2.2.2.1 x.2.2.2.2.2.2.2.1 x.2.2.2.2.2.2.2.2 w) (80 - i).toNat (a,b,c,d,e,f,g,h,i))):=by
 unfold zba_p3;refine qBm (fun x=>x.2.2.2.2.2.2.2.2) (fun x=>s64C x.1 x.2.1 x.2.2.1 x.2.2.2.1 x.2.2.2.2.1 x.2.2.2.2.2.1 x.2.2.2.2.2.2.1 x.2.2.2.2.2.2.2.1 x.2.2.2.2.2.2.2.2 w) (fun x=>(x.1,x.2.1,x.2.2.1,x.2.2.2.1,x.2.2.2.2.1,x.2.2.2.2.2.1,x.2.2.2.2.2.2.1,x.2.2.2.2.2.2.2.1)) (fun x=>0≤x.2.2.2.2.2.2.2.2) 80 (fun x hi hn=>?_) (fun x hi hn=>?_) _ (a,b,c,d,e,f,g,h,i) h0 rfl
 ·refine ⟨?_,rfl,by show 0≤x.2.2.2.2.2.2.2.2+1; omega⟩;unfold qFe;rw [deT hn,cnT];refine (qAb ⟨hi,hn⟩ _).trans ((qAb (by rw [shaK512_len]; omega) _).trans ((qAb ⟨hi,hn⟩ _).trans ((qAb (by omega) _).trans ?_)));simp only [p_rot64,obS];exact qAb (by unfold qAc; omega) _
 ·unfold qFe;rw [deF (by omega),cnF]
theorem p_64D (i:Int) (h0:0≤i) (s:List Int) (a b c d e f g h:Int):zba_p4 a b c d e f g h i s=some (itr (fun x=>s64D a b c d e f g h x.1 x.2) (8 - i).toNat (i,s)).2:=by
 unfold zba_p4;refine qBm (fun x=>x.1) (fun x=>s64D a b c d e f g h x.1 x.2) (fun x=>x.2) (fun x=>0≤x.1) 8 (fun x hi hn=>?_) (fun x hi hn=>?_) _ (i,s) h0 rfl
 ·refine ⟨?_,rfl,by show 0≤x.1+1; omega⟩;unfold qFf;rw [deT hn,cnT]
  repeat refine (qAb (by first | (unfold qAc; omega) | omega) _).trans ?_
  rfl
 ·unfold qFf;rw [deF (by omega),cnF]
def wrd64 (r:List Int):List Int:=(itr (fun x=>s64B x.1 x.2) 64 (16,nrm 80 (itr (w64A (nrm 128 r)) 16 (0,nrm 80 [])).2)).2
def rnd64 (s w:List Int):Int × Int × Int × Int × Int × Int × Int × Int × Int:=itr (fun x=>s64C x.1 x.2.1 x.2.2.1 x.2.2.2.1 x.2.2.2.2.1 x.2.2.2.2.2.1 x.2.2.2.2.2.2.1 x.2.2.2.2.2.2.2.1 x.2.2.2.2.2.2.2.2 (nrm 80 w)) 80 ((nrm 8 s).getD 0 0,(nrm 8 s).getD 1 0,(nrm 8 s).getD 2 0,(nrm 8 s).getD 3 0,(nrm 8 s).getD 4 0,(nrm 8 s).getD 5 0,(nrm 8 s).getD 6 0,(nrm 8 s).getD 7 0,0)
def add64 (x:Int × Int × Int × Int × Int × Int × Int × Int × Int) (s:List Int):List Int:=(itr (fun y=>s64D x.1 x.2.1 x.2.2.1 x.2.2.2.1 x.2.2.2.2.1 x.2.2.2.2.2.1 x.2.2.2.2.2.2.1 x.2.2.2.2.2.2.2.1 y.1 y.2) 8 (0,nrm 8 s)).2
def blk64 (s:qGv):qGv:=⟨s.hash,nrm 8 s.short,add64 (rnd64 s.long (wrd64 s.rest)) s.long,nrm 128 s.rest,s.n⟩
theorem p_block64 (s:qGv):zba_s s=some (blk64 s):=by
 unfold zba_s;rw [p_64A _ _ _ _ (qBh _ _) (qBh _ _) (qBh _ _)];simp only [obS,qBs];rw [p_64B _ (by omega)];simp only [obS];rw [p_64C _ (by omega)];simp only [obS];rw [p_64D _ (by omega)];kernel_rfl
def blk (s:qGv):qGv:=bif decide (s.hash=1) then blk32 s else blk64 s
theorem blk32_nrm (s:qGv):blk32 ⟨s.hash,nrm 8 s.short,nrm 8 s.long,nrm 128 s.rest,s.n⟩=blk32 s:=by simp only [blk32,rnd32,wrd32,add32,qBs]
theorem blk64_nrm (s:qGv):blk64 ⟨s.hash,nrm 8 s.short,nrm 8 s.long,nrm 128 s.rest,s.n⟩=blk64 s:=by simp only [blk64,rnd64,wrd64,add64,qBs]
theorem p_block (s:qGv):zay_s s=some (blk s):=by
 unfold zay_s blk;cases decide (s.hash=1)
 ·simp only [cnF,p_block64,obS,blk64_nrm]
 ·simp only [cnT,p_block32,obS,blk32_nrm]
end Go.Proofs.YtobmafbliahplaaDoor
