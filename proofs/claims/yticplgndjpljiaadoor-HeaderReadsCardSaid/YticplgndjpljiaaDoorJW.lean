/-
  Functions as the engine reads them (printed by gen.py).
-/
import Derived.Test.YticplgndjpljiaaDoorEngO
import Derived.Test.YticplgndjpljiaaDoorProg
import Derived.Test.YticplgndjpljiaaDoorPShape
import Derived.Test.YticplgndjpljiaaDoorKeyOf
import Derived.Test.YticplgndjpljiaaDoorGC
import Derived.Test.YticplgndjpljiaaDoorPShaped
import Derived.Test.YticplgndjpljiaaDoorJP
import Derived.Test.YticplgndjpljiaaDoorJQ
namespace Go.Proofs.YticplgndjpljiaaDoor
open Go.Eng
set_option linter.unusedVariables false
set_option linter.unusedSimpArgs false
set_option maxRecDepth 100000
noncomputable section
structure qHl where
 alg:Int
 kid:BA
 typ:BA
 hasTyp:Bool
structure header_reader where
 alg:BA
 kid:BA
 hasAlg:Bool
 hasKid:Bool
 out:qHl
structure qH9 where
 addr:Bool
 buf:(List Int)
structure qIb where
 algs:(List BA)
 iss:BA
 hasIss:Bool
 aud:BA
 hasAud:Bool
 typ:BA
 hasTyp:Bool
 leeway:Int
 need:(List BA)
def zae_q:IQ:=(.join [] [] (rg 0 [oM 4 t0,oM 5 t0,oM 6 t1,oP 7 (.nk t4),oP 8 (.faddr 0 t7),oN (.store 1 t8 t6),oP 9 (.nk t5),oP 10 (.faddr 2 t9),oN (.store 1 t10 vT)]))
theorem zae_chk:chk Tryd.prog 43 []=some (zae_q.erase,[],11):=by kernel_rfl
def zae_s (r_:header_reader) (s:BA):Option header_reader :=
 some (⟨s,r_.kid,true,r_.hasKid,r_.out⟩:header_reader)
def zae_G:Nat→Option CQ:=tblQ []
theorem zae_Gok:∀f C,zae_G f=some C→qAf Tryd.prog f C:=fun f C h=>by cases h
def zae_L:Nat→SubQ:=tblL []
theorem zae_subs:qAp zae_L zae_G 1 4 11 zae_q:=qAk (show qAr zae_L zae_G 1 4 11 [] from tV)
def zae_da:=(qAb (dVC (dCO (dH 0 0))) (qAb (dVC (dCO dS)) dNil))
def zDJW1:=(qAb dZ (qAb dS (qAb dS (qAb dB dNil))))
def zDJW2:=(qDt 81 (qAb dS (qAb dS (qAb dB (qAb dB zDJW1)))))
def zae_db:=(qAb zDJW2 dNil)
def zae_c:CS:=mkC zae_da zae_db (fun x y=>zae_s (⟨y.1.1,y.1.2.1,y.1.2.2.1,y.1.2.2.2.1,(⟨y.1.2.2.2.2.1,y.1.2.2.2.2.2.1,y.1.2.2.2.2.2.2.1,y.1.2.2.2.2.2.2.2.1⟩:qHl)⟩:header_reader) x.2.1) (fun x y r=>.tup []) fun x y r=>[.cells 81 [.vS r.alg,.vS r.kid,.vB r.hasAlg,.vB r.hasKid,.vI r.out.alg,.vS r.out.kid,.vS r.out.typ,.vB r.out.hasTyp]]
theorem zae_val:qAl Tryd.prog 43 zae_c:=qAn zae_chk 4 zae_Gok 1 (fun x=>Nat.le_of_ble_eq_true rfl) (fun y=>rfl) zae_subs fun x y=>by
 simp only [zae_s,-eq_self,qAc,qAg,obA,obS,slL,slR,qAd];kernel_rfl
def zae_w:CQ:=qB9 [true] zae_c
theorem zae_ok:qAf Tryd.prog 43 zae_w:=qA4 zae_val
def zaf_q:IQ:=(.join [] [] (rg 0 [oM 4 t0,oM 5 t0,oM 6 t1,oP 7 (.nk t4),oP 8 (.faddr 1 t7),oN (.store 1 t8 t6),oP 9 (.nk t5),oP 10 (.faddr 3 t9),oN (.store 1 t10 vT)]))
theorem zaf_chk:chk Tryd.prog 44 []=some (zaf_q.erase,[],11):=by kernel_rfl
def zaf_s (r_:header_reader) (s:BA):Option header_reader :=
 some (⟨r_.alg,s,r_.hasAlg,true,r_.out⟩:header_reader)
def zaf_G:Nat→Option CQ:=tblQ []
theorem zaf_Gok:∀f C,zaf_G f=some C→qAf Tryd.prog f C:=fun f C h=>by cases h
def zaf_L:Nat→SubQ:=tblL []
theorem zaf_subs:qAp zaf_L zaf_G 1 4 11 zaf_q:=qAk (show qAr zaf_L zaf_G 1 4 11 [] from tV)
def zaf_da:=(qAb (dVC (dCO (dH 0 0))) (qAb (dVC (dCO dS)) dNil))
def zaf_db:=(qAb zDJW2 dNil)
def zaf_c:CS:=mkC zaf_da zaf_db (fun x y=>zaf_s (⟨y.1.1,y.1.2.1,y.1.2.2.1,y.1.2.2.2.1,(⟨y.1.2.2.2.2.1,y.1.2.2.2.2.2.1,y.1.2.2.2.2.2.2.1,y.1.2.2.2.2.2.2.2.1⟩:qHl)⟩:header_reader) x.2.1) (fun x y r=>.tup []) fun x y r=>[.cells 81 [.vS r.alg,.vS r.kid,.vB r.hasAlg,.vB r.hasKid,.vI r.out.alg,.vS r.out.kid,.vS r.out.typ,.vB r.out.hasTyp]]
theorem zaf_val:qAl Tryd.prog 44 zaf_c:=qAn zaf_chk 4 zaf_Gok 1 (fun x=>Nat.le_of_ble_eq_true rfl) (fun y=>rfl) zaf_subs fun x y=>by
 simp only [zaf_s,-eq_self,qAc,qAg,obA,obS,slL,slR,qAd];kernel_rfl
def zaf_w:CQ:=qB9 [true] zaf_c
theorem zaf_ok:qAf Tryd.prog 44 zaf_w:=qA4 zaf_val
def zag_q:IQ:=(.join [] [] (rg 0 [oM 4 t0,oM 5 t0,oM 6 t1,oP 7 (.nk t4),oP 8 (.faddr 4 t7),oP 9 (.faddr 2 t8),oN (.store 1 t9 t6),oP 10 (.nk t5),oP 11 (.faddr 4 t10),oP 12 (.faddr 3 t11),oN (.store 1 t12 vT)]))
theorem zag_chk:chk Tryd.prog 45 []=some (zag_q.erase,[],13):=by kernel_rfl
def zag_s (r_:header_reader) (s:BA):Option header_reader :=
 some (⟨r_.alg,r_.kid,r_.hasAlg,r_.hasKid,(⟨r_.out.alg,r_.out.kid,s,true⟩:qHl)⟩:header_reader)
def zag_G:Nat→Option CQ:=tblQ []
theorem zag_Gok:∀f C,zag_G f=some C→qAf Tryd.prog f C:=fun f C h=>by cases h
def zag_L:Nat→SubQ:=tblL []
theorem zag_subs:qAp zag_L zag_G 1 4 13 zag_q:=qAk (show qAr zag_L zag_G 1 4 13 [] from tV)
def zag_da:=(qAb (dVC (dCO (dH 0 0))) (qAb (dVC (dCO dS)) dNil))
def zag_db:=(qAb zDJW2 dNil)
def zag_c:CS:=mkC zag_da zag_db (fun x y=>zag_s (⟨y.1.1,y.1.2.1,y.1.2.2.1,y.1.2.2.2.1,(⟨y.1.2.2.2.2.1,y.1.2.2.2.2.2.1,y.1.2.2.2.2.2.2.1,y.1.2.2.2.2.2.2.2.1⟩:qHl)⟩:header_reader) x.2.1) (fun x y r=>.tup []) fun x y r=>[.cells 81 [.vS r.alg,.vS r.kid,.vB r.hasAlg,.vB r.hasKid,.vI r.out.alg,.vS r.out.kid,.vS r.out.typ,.vB r.out.hasTyp]]
theorem zag_val:qAl Tryd.prog 45 zag_c:=qAn zag_chk 4 zag_Gok 1 (fun x=>Nat.le_of_ble_eq_true rfl) (fun y=>rfl) zag_subs fun x y=>by
 simp only [zag_s,-eq_self,qAc,qAg,obA,obS,slL,slR,qAd];kernel_rfl
def zag_w:CQ:=qB9 [true] zag_c
theorem zag_ok:qAf Tryd.prog 45 zag_w:=qA4 zag_val
def zad_b0:IQ:=(.loop [2,4,7,8,41,42,43] (.seq (rg 44 [oP 44 (.bi .lss t43 t42)]) (.seq (.cond t44 .skip (.cn [2,7] (.exit 0))) (.seq (.block 1 (.seq (rg 0 [oP 45 (.iaddr 1 t41 t43),oP 46 (.load none t45),oP 10 (.alloc 3 [.int .i64 0]),oN (.store 1 t10 t46)]) (.seq (rg 11 [oP 47 (.ext (.asl 3 2) [t8]),oP 48 (.ext (.mkfn 47 0) [t4,t10]),oP 49 (.call 46 [t47,t48]),oM 11 t49]) (.seq (.seq (rg 59 [oM 50 t11,oP 51 (.bi .lss t50 (vI 0)),oM 52 t51,oE 53 (.load none t4) 52,oE 54 (.load none t10) 52,oE 55 (.iaddr 6 t53 t54) 52,oE 56 (.faddr 0 t55) 52,oE 57 (.load none t56) 52,oE 58 (.bi .neq t57 (vI 5)) 52,oP 59 (.pick t52 vT t58)]) (.cond t59 (.seq (rg 3 [oP 60 (.build [.int .i64 0,.string ⟨#[]⟩,.string ⟨#[]⟩,.bool false] []),oN (.store 4 t2 t60),oP 3 (.mv (vI 110))]) (.cn [2,3] .ret)) .skip)) (.regL 70 [0,1,2,3,4,5,6,7,8] 9 [oM 61 t11,oP 62 (.ext (.pidx 3 2) [t8,t61]),oP 63 (.faddr 1 t62),oP 64 (.load none t63),oP 65 (.load none t4),oP 66 (.load none t10),oP 67 (.iaddr 6 t65 t66),oP 68 (.faddr 2 t67),oP 69 (.load none t68)] ⟨(some 70),.callV t64 [t69],none⟩))))) (rg 43 [oP 71 (.bi .add t43 (vI 1)),oM 43 t71])))))
def zad_q:IQ:=(.seq (rg 3 [oP 2 (.alloc 24 [.int .i64 0,.string ⟨#[]⟩,.string ⟨#[]⟩,.bool false]),oP 3 (.mv (vI 0))]) (.seq (rg 6 [oM 13 t0,oP 14 (.call 20 [t13]),oM 12 t14,oP 15 (.extract t12 0),oP 16 (.extract t12 1),oP 17 (.extract t12 2),oP 4 (.alloc 40 [.slice none 0 0]),oN (.store 1 t4 t15),oM 5 t16,oM 6 t17]) (.seq (.seq (rg 19 [oM 18 t5,oP 19 (.bi .neq t18 (vI 0))]) (.cond t19 (.seq (rg 3 [oP 20 (.build [.int .i64 0,.string ⟨#[]⟩,.string ⟨#[]⟩,.bool false] []),oM 21 t5,oN (.store 4 t2 t20),oM 3 t21]) (.cn [2,3] .ret)) .skip)) (.seq (.seq (rg 26 [oP 22 (.load none t4),oP 23 (.iaddr 6 t22 (vI 0)),oP 24 (.faddr 0 t23),oP 25 (.load none t24),oP 26 (.bi .neq t25 (vI 7))]) (.cond t26 (.seq (rg 3 [oP 27 (.build [.int .i64 0,.string ⟨#[]⟩,.string ⟨#[]⟩,.bool false] []),oN (.store 4 t2 t27),oP 3 (.mv (vI 110))]) (.cn [2,3] .ret)) .skip)) (.seq (rg 7 [oP 28 (.build [.string ⟨#[]⟩,.string ⟨#[]⟩,.bool false,.bool false,.int .i64 0,.string ⟨#[]⟩,.string ⟨#[]⟩,.bool false] []),oP 29 (.box 81 8 t28),oM 7 t29]) (.seq (rg 0 [oM 30 t7,oP 31 (.ext (.mkfn 43 1) [t30]),oP 32 (.build [.string ⟨#[]⟩,.nilFunc] [(0,1,(.v (.string ⟨#[97,108,103]⟩))),(1,1,t31)]),oM 33 t7,oP 34 (.ext (.mkfn 44 1) [t33]),oP 35 (.build [.string ⟨#[]⟩,.nilFunc] [(0,1,(.v (.string ⟨#[107,105,100]⟩))),(1,1,t34)]),oM 36 t7,oP 37 (.ext (.mkfn 45 1) [t36]),oP 38 (.build [.string ⟨#[]⟩,.nilFunc] [(0,1,(.v (.string ⟨#[116,121,112]⟩))),(1,1,t37)]),oP 39 (.build [.string ⟨#[]⟩,.nilFunc,.string ⟨#[]⟩,.nilFunc,.string ⟨#[]⟩,.nilFunc] [(0,2,t32),(2,2,t35),(4,2,t38)]),oP 8 (.alloc 85 [.string ⟨#[]⟩,.nilFunc,.string ⟨#[]⟩,.nilFunc,.string ⟨#[]⟩,.nilFunc]),oN (.store 6 t8 t39)]) (.seq (.seq (rg 43 [oP 40 (.load none t4),oP 41 (.call 29 [t40,(vI 0)]),oP 42 (.len t41),oP 43 (.mv (vI 0))]) (.block 0 (.cn [2,4,7,8,41,42,43] (.sub 0 zad_b0)))) (.seq (.seq (rg 83 [oM 72 t7,oP 73 (.nk t72),oP 74 (.faddr 2 t73),oP 75 (.load none t74),oP 76 (.un .not t75),oM 77 t76,oE 78 (.mv t7) 77,oE 79 (.nk t78) 77,oE 80 (.faddr 3 t79) 77,oE 81 (.load none t80) 77,oE 82 (.un .not t81) 77,oP 83 (.pick t77 vT t82)]) (.cond t83 (.seq (rg 3 [oP 84 (.build [.int .i64 0,.string ⟨#[]⟩,.string ⟨#[]⟩,.bool false] []),oN (.store 4 t2 t84),oP 3 (.mv (vI 110))]) (.cn [2,3] .ret)) .skip)) (.seq (.reg 0 (some [0,1,2,3,4,5,7,8,9,10,6,11,12,13,14,15,16,17,18]) [oM 85 t7,oM 86 t7,oM 87 t7,oP 88 (.nk t87),oP 89 (.faddr 0 t88),oP 90 (.load none t89),oM 92 t7,oP 93 (.nk t92),oP 94 (.faddr 1 t93),oP 95 (.load none t94),oP 91 (.call 22 [t90]),oP 96 (.nk t85),oP 97 (.faddr 4 t96),oP 98 (.faddr 0 t97),oN (.store 1 t98 t91),oP 99 (.nk t86),oP 100 (.faddr 4 t99),oP 101 (.faddr 1 t100),oN (.store 1 t101 t95)]) (.seq (.seq (rg 107 [oM 102 t7,oP 103 (.nk t102),oP 104 (.faddr 4 t103),oP 105 (.faddr 0 t104),oP 106 (.load none t105),oP 107 (.bi .eql t106 (vI 0))]) (.cond t107 (.seq (rg 3 [oP 108 (.build [.int .i64 0,.string ⟨#[]⟩,.string ⟨#[]⟩,.bool false] []),oN (.store 4 t2 t108),oP 3 (.mv (vI 111))]) (.cn [2,3] .ret)) .skip)) (.seq (rg 3 [oM 109 t7,oP 110 (.nk t109),oP 111 (.faddr 4 t110),oP 112 (.load (some 4) t111),oN (.store 4 t2 t112),oP 3 (.mv (vI 0))]) (.cn [2,3] .ret))))))))))))
theorem zad_chk:chk Tryd.prog 14 []=some (zad_q.erase,[.cell 2 (some 4),.tmp 3],113):=by kernel_rfl
def qB0 (x42_ x43_:Int) (qHz qH0:BA) (qHt qHu:Bool) (qHq:Int) (qHr qHs:BA) (qHo:Bool) (fields_c0 fields_c2 fields_c4:BA) (x41_:List Int) (v_v:List Eng.Node):Option ((Int × BA × BA × Bool × Bool × Int × BA × BA × Bool) ⊕ ((Int × Int × BA × BA × Bool) ⊕ (BA × BA × Bool × Bool × Int × BA × BA × Bool))) :=
 bif decide (x43_<x42_) then (
  gd (0≤x43_∧x43_<x41_.length) <|
  gd ((Int.toNat x43_)<x41_.length) <|
  gd (0≤(0:Int)∧(0:Int)<((3:Nat):Int)) <|
  gd (0≤(x41_.getD (Int.toNat x43_) (ET.dft .i64))∧(x41_.getD (Int.toNat x43_) (ET.dft .i64))<v_v.length) <|
  gd ((Int.toNat (x41_.getD (Int.toNat x43_) (ET.dft .i64)))<v_v.length) <|
  gd ((Int.toNat (x41_.getD (Int.toNat x43_) (ET.dft .i64)))<v_v.length) <|
  bif decide (fields_c0=((v_v.getD (Int.toNat (x41_.getD (Int.toNat x43_) (ET.dft .i64))) (ET.dft .node)).key)) then (
   gd (false=false→0≤(x41_.getD (Int.toNat x43_) (ET.dft .i64))∧(x41_.getD (Int.toNat x43_) (ET.dft .i64))<v_v.length) <|
   gd (false=false→(Int.toNat (x41_.getD (Int.toNat x43_) (ET.dft .i64)))<v_v.length) <|
   gd (false=false→(Int.toNat (x41_.getD (Int.toNat x43_) (ET.dft .i64)))<v_v.length) <|
   bif (!decide (((v_v.getD (Int.toNat (x41_.getD (Int.toNat x43_) (ET.dft .i64))) (ET.dft .node)).kind)=(5:Int))) then (
    some (.inr (.inl ((110:Int),(0:Int),(⟨#[]⟩:BA),(⟨#[]⟩:BA),false))))
   else (
    gd (0≤(0:Int)∧(0:Int)<((3:Nat):Int)) <|
    gd (0≤(x41_.getD (Int.toNat x43_) (ET.dft .i64))∧(x41_.getD (Int.toNat x43_) (ET.dft .i64))<v_v.length) <|
    gd ((Int.toNat (x41_.getD (Int.toNat x43_) (ET.dft .i64)))<v_v.length) <|
    gd ((Int.toNat (x41_.getD (Int.toNat x43_) (ET.dft .i64)))<v_v.length) <|
    (zae_s (⟨qHz,qH0,qHt,qHu,(⟨qHq,qHr,qHs,qHo⟩:qHl)⟩:header_reader) ((v_v.getD (Int.toNat (x41_.getD (Int.toNat x43_) (ET.dft .i64))) (ET.dft .node)).text)).bind fun r30 =>
    gd (qAe (x43_+(1:Int))) <|
    some (.inl ((x43_+(1:Int)),r30.alg,r30.kid,r30.hasAlg,r30.hasKid,r30.out.alg,r30.out.kid,r30.out.typ,r30.out.hasTyp))))
  else (
   gd (qAe ((0:Int)+(1:Int))) <|
   gd (0≤((0:Int)+(1:Int))∧((0:Int)+(1:Int))<((3:Nat):Int)) <|
   gd (0≤(x41_.getD (Int.toNat x43_) (ET.dft .i64))∧(x41_.getD (Int.toNat x43_) (ET.dft .i64))<v_v.length) <|
   gd ((Int.toNat (x41_.getD (Int.toNat x43_) (ET.dft .i64)))<v_v.length) <|
   gd ((Int.toNat (x41_.getD (Int.toNat x43_) (ET.dft .i64)))<v_v.length) <|
   bif decide (fields_c2=((v_v.getD (Int.toNat (x41_.getD (Int.toNat x43_) (ET.dft .i64))) (ET.dft .node)).key)) then (
    gd (false=false→0≤(x41_.getD (Int.toNat x43_) (ET.dft .i64))∧(x41_.getD (Int.toNat x43_) (ET.dft .i64))<v_v.length) <|
    gd (false=false→(Int.toNat (x41_.getD (Int.toNat x43_) (ET.dft .i64)))<v_v.length) <|
    gd (false=false→(Int.toNat (x41_.getD (Int.toNat x43_) (ET.dft .i64)))<v_v.length) <|
    bif (!decide (((v_v.getD (Int.toNat (x41_.getD (Int.toNat x43_) (ET.dft .i64))) (ET.dft .node)).kind)=(5:Int))) then (
     some (.inr (.inl ((110:Int),(0:Int),(⟨#[]⟩:BA),(⟨#[]⟩:BA),false))))
    else (
     gd (0≤((0:Int)+(1:Int))∧((0:Int)+(1:Int))<((3:Nat):Int)) <|
     gd (0≤(x41_.getD (Int.toNat x43_) (ET.dft .i64))∧(x41_.getD (Int.toNat x43_) (ET.dft .i64))<v_v.length) <|
     gd ((Int.toNat (x41_.getD (Int.toNat x43_) (ET.dft .i64)))<v_v.length) <|
     gd ((Int.toNat (x41_.getD (Int.toNat x43_) (ET.dft .i64)))<v_v.length) <|
     (zaf_s (⟨qHz,qH0,qHt,qHu,(⟨qHq,qHr,qHs,qHo⟩:qHl)⟩:header_reader) ((v_v.getD (Int.toNat (x41_.getD (Int.toNat x43_) (ET.dft .i64))) (ET.dft .node)).text)).bind fun r31 =>
     gd (qAe (x43_+(1:Int))) <|
     some (.inl ((x43_+(1:Int)),r31.alg,r31.kid,r31.hasAlg,r31.hasKid,r31.out.alg,r31.out.kid,r31.out.typ,r31.out.hasTyp))))
   else (
    gd (qAe (((0:Int)+(1:Int))+(1:Int))) <|
    gd (0≤(((0:Int)+(1:Int))+(1:Int))∧(((0:Int)+(1:Int))+(1:Int))<((3:Nat):Int)) <|
    gd (0≤(x41_.getD (Int.toNat x43_) (ET.dft .i64))∧(x41_.getD (Int.toNat x43_) (ET.dft .i64))<v_v.length) <|
    gd ((Int.toNat (x41_.getD (Int.toNat x43_) (ET.dft .i64)))<v_v.length) <|
    gd ((Int.toNat (x41_.getD (Int.toNat x43_) (ET.dft .i64)))<v_v.length) <|
    bif decide (fields_c4=((v_v.getD (Int.toNat (x41_.getD (Int.toNat x43_) (ET.dft .i64))) (ET.dft .node)).key)) then (
     gd (false=false→0≤(x41_.getD (Int.toNat x43_) (ET.dft .i64))∧(x41_.getD (Int.toNat x43_) (ET.dft .i64))<v_v.length) <|
     gd (false=false→(Int.toNat (x41_.getD (Int.toNat x43_) (ET.dft .i64)))<v_v.length) <|
     gd (false=false→(Int.toNat (x41_.getD (Int.toNat x43_) (ET.dft .i64)))<v_v.length) <|
     bif (!decide (((v_v.getD (Int.toNat (x41_.getD (Int.toNat x43_) (ET.dft .i64))) (ET.dft .node)).kind)=(5:Int))) then (
      some (.inr (.inl ((110:Int),(0:Int),(⟨#[]⟩:BA),(⟨#[]⟩:BA),false))))
     else (
      gd (0≤(((0:Int)+(1:Int))+(1:Int))∧(((0:Int)+(1:Int))+(1:Int))<((3:Nat):Int)) <|
      gd (0≤(x41_.getD (Int.toNat x43_) (ET.dft .i64))∧(x41_.getD (Int.toNat x43_) (ET.dft .i64))<v_v.length) <|
      gd ((Int.toNat (x41_.getD (Int.toNat x43_) (ET.dft .i64)))<v_v.length) <|
      gd ((Int.toNat (x41_.getD (Int.toNat x43_) (ET.dft .i64)))<v_v.length) <|
      (zag_s (⟨qHz,qH0,qHt,qHu,(⟨qHq,qHr,qHs,qHo⟩:qHl)⟩:header_reader) ((v_v.getD (Int.toNat (x41_.getD (Int.toNat x43_) (ET.dft .i64))) (ET.dft .node)).text)).bind fun r32 =>
      gd (qAe (x43_+(1:Int))) <|
      some (.inl ((x43_+(1:Int)),r32.alg,r32.kid,r32.hasAlg,r32.hasKid,r32.out.alg,r32.out.kid,r32.out.typ,r32.out.hasTyp))))
    else (
     gd (qAe ((((0:Int)+(1:Int))+(1:Int))+(1:Int))) <|
     gd (true=false→0≤(x41_.getD (Int.toNat x43_) (ET.dft .i64))∧(x41_.getD (Int.toNat x43_) (ET.dft .i64))<v_v.length) <|
     gd (true=false→(Int.toNat (x41_.getD (Int.toNat x43_) (ET.dft .i64)))<v_v.length) <|
     gd (true=false→(Int.toNat (x41_.getD (Int.toNat x43_) (ET.dft .i64)))<v_v.length) <|
     some (.inr (.inl ((110:Int),(0:Int),(⟨#[]⟩:BA),(⟨#[]⟩:BA),false)))))))
 else (
  some (.inr (.inr (qHz,qH0,qHt,qHu,qHq,qHr,qHs,qHo))))
def zad_p0 (x42_ x43_:Int) (qHz qH0:BA) (qHt qHu:Bool) (qHq:Int) (qHr qHs:BA) (qHo:Bool) (fields_c0 fields_c2 fields_c4:BA) (x41_:List Int) (v_v:List Eng.Node):Option ((Int × Int × BA × BA × Bool) ⊕ (BA × BA × Bool × Bool × Int × BA × BA × Bool)) :=
 qA6 (fun x:(Int × BA × BA × Bool × Bool × Int × BA × BA × Bool)=>qB0 x42_ x.1 x.2.1 x.2.2.1 x.2.2.2.1 x.2.2.2.2.1 x.2.2.2.2.2.1 x.2.2.2.2.2.2.1 x.2.2.2.2.2.2.2.1 x.2.2.2.2.2.2.2.2 fields_c0 fields_c2 fields_c4 x41_ v_v) (x43_,qHz,qH0,qHt,qHu,qHq,qHr,qHs,qHo)
def zad_s (text:BA):Option (qHl × Int) :=
 (zal_s text).bind fun r28 =>
 bif (!decide (r28.2.1=(0:Int))) then (
  some ((⟨(0:Int),(⟨#[]⟩:BA),(⟨#[]⟩:BA),false⟩:qHl),r28.2.1))
 else (
  gd (0≤(0:Int)∧(0:Int)<r28.1.length) <|
  gd ((Int.toNat (0:Int))<r28.1.length) <|
  gd ((Int.toNat (0:Int))<r28.1.length) <|
  bif (!decide (((r28.1.getD (Int.toNat (0:Int)) (ET.dft .node)).kind)=(7:Int))) then (
   some ((⟨(0:Int),(⟨#[]⟩:BA),(⟨#[]⟩:BA),false⟩:qHl),(110:Int)))
  else (
   (zak_s r28.1 (0:Int)).bind fun r29 =>
   (zad_p0 (r29.length:Int) (0:Int) (⟨#[]⟩:BA) (⟨#[]⟩:BA) false false (0:Int) (⟨#[]⟩:BA) (⟨#[]⟩:BA) false (⟨#[97,108,103]⟩:BA) (⟨#[107,105,100]⟩:BA) (⟨#[116,121,112]⟩:BA) r29 r28.1).bind fun o33=>(Sum.elim (fun (o33_0:Int × Int × BA × BA × Bool) =>
    some ((⟨o33_0.2.1,o33_0.2.2.1,o33_0.2.2.2.1,o33_0.2.2.2.2⟩:qHl),o33_0.1)) (fun (o33_1:BA × BA × Bool × Bool × Int × BA × BA × Bool) =>
    bif ((!o33_1.2.2.1) || (!o33_1.2.2.2.1)) then (
     some ((⟨(0:Int),(⟨#[]⟩:BA),(⟨#[]⟩:BA),false⟩:qHl),(110:Int)))
    else (
     (keyset_Of_s o33_1.1).bind fun r34 =>
     bif decide (r34=(0:Int)) then (
      some ((⟨(0:Int),(⟨#[]⟩:BA),(⟨#[]⟩:BA),false⟩:qHl),(111:Int)))
     else (
      some ((⟨r34,o33_1.2.1,o33_1.2.2.2.2.2.2.1,o33_1.2.2.2.2.2.2.2⟩:qHl),(0:Int)))))) o33))
def qFc:IQ :=
 (.seq
 (.reg 4 none [
  ⟨(some 3),.box 84 2 (.t 0),none⟩,
  ⟨(some 4),.mv (.v (.bool false)),none⟩])
 (.seq
 (.reg 4 (some [0,1,2,3,4,5,6,7,8]) [
  ⟨(some 5),.faddr 0 (.t 3),none⟩,
  ⟨(some 6),.load none (.t 5),none⟩,
  ⟨(some 7),.load none (.t 1),none⟩,
  ⟨(some 8),.load none (.t 2),none⟩,
  ⟨(some 9),.iaddr 6 (.t 7) (.t 8),none⟩,
  ⟨(some 10),.faddr 1 (.t 9),none⟩,
  ⟨(some 11),.load none (.t 10),none⟩,
  ⟨(some 12),.bin false .eql (.t 6) (.t 11),none⟩,
  ⟨(some 4),.mv (.t 12),none⟩])
 .ret))
theorem header_Parse_1_47_ichk:chk Tryd.prog 47 []=some (qFc.erase,[.tmp 4],13):=by kernel_rfl
def zad_i46_i47_G:Nat→Option CQ:=tblQ []
theorem zad_i46_i47_Gok:∀f C,zad_i46_i47_G f=some C→qAf Tryd.prog f C:=fun f C h=>by cases h
def zad_i46_i47:CQ:=inlQ zad_i46_i47_G 4 13 qFc [.tmp 4]
theorem zad_i46_i47_ok:qAf Tryd.prog 47 zad_i46_i47:=inl_valid header_Parse_1_47_ichk (by kernel_rfl) 4 zad_i46_i47_Gok (by kernel_rfl)
def qBd:IQ :=
 (.seq
 (.reg 4 none [
  ⟨(some 4),.mv (.v (.int .i64 0)),none⟩])
 (.seq
 (.seq
 (.reg 8 none [
  ⟨(some 6),.mv (.t 0),none⟩,
  ⟨(some 7),.len (.t 6),none⟩,
  ⟨(some 8),.mv (.v (.int .i64 0)),none⟩])
 (.block 0
  (.unroll 5
   (.seq
   (.reg 9 none [
    ⟨(some 9),.bin false .lss (.t 8) (.t 7),none⟩])
   (.seq
   (.cond (.t 9)
    .skip
    (.exit 0))
   (.seq
   (.block 1
    (.seq
    (.reg 5 none [
     ⟨(some 10),.mv (.t 8),none⟩,
     ⟨(some 5),.mv (.t 10),none⟩])
    (.seq
    (.reg 16 none [
     ⟨(some 11),.mv (.t 1),none⟩,
     ⟨(some 12),.mv (.t 0),none⟩,
     ⟨(some 13),.mv (.t 5),none⟩,
     ⟨(some 14),.iaddr 2 (.t 12) (.t 13),none⟩,
     ⟨(some 15),.load (some 2) (.t 14),none⟩,
     ⟨(some 16),.callV (.t 11) [(.t 15)],none⟩])
    (.cond (.t 16)
     (.seq
     (.reg 4 none [
      ⟨(some 17),.mv (.t 5),none⟩,
      ⟨(some 4),.mv (.t 17),none⟩])
     .ret)
     .skip))))
   (.reg 8 none [
    ⟨(some 18),.bin false .add (.t 8) (.v (.int .i64 1)),none⟩,
    ⟨(some 8),.mv (.t 18),none⟩])))))))
 (.seq
 (.reg 4 none [
  ⟨(some 4),.mv (.v (.int .i64 (-1))),none⟩])
 .ret)))
theorem qB3:chk Tryd.prog 46 []=some (qBd.erase,[.tmp 4],19):=by kernel_rfl
def zad_i46_G:Nat→Option CQ:=tblQ [(47,zad_i46_i47)]
theorem zad_i46_Gok:∀f C,zad_i46_G f=some C→qAf Tryd.prog f C:=qAj ⟨zad_i46_i47_ok,tV⟩
def zad_i46:CQ:=inlQ zad_i46_G 9 19 qBd [.tmp 4]
theorem zad_i46_ok:qAf Tryd.prog 46 zad_i46:=inl_valid qB3 (by kernel_rfl) 9 zad_i46_Gok (by kernel_rfl)
def zad_G:Nat→Option CQ:=tblQ [(20,zal_w),(29,zak_w),(46,zad_i46),(43,(toInl zae_w)),(44,(toInl zaf_w)),(45,(toInl zag_w)),(22,keyset_Of_w)]
theorem zad_Gok:∀f C,zad_G f=some C→qAf Tryd.prog f C:=qAj ⟨zal_ok,zak_ok,zad_i46_ok,(toInl_valid (by kernel_rfl) zae_ok),(toInl_valid (by kernel_rfl) zaf_ok),(toInl_valid (by kernel_rfl) zag_ok),keyset_Of_ok,tV⟩
def zad_d0:=(dQS (qAb (dSO 2 (dH 0 0)) (qAb (dSO 4 (dH 1 0)) (qAb (dSO 7 (dH 2 0)) (qAb (dSO 8 (dH 3 0)) (qAb (dSO 41 (dO 4)) (qAb (dSO 42 dZ) (qAb (dSO 43 dZ) dNil))))))) (qAb (qDt 24 zDJW1) (qAb (qDt 40 (qAb (dO 5) dNil)) (qAb zDJW2 (qAb (qDt 85 (qAb dS (qAb (dO 6) (qAb dS (qAb (dO 7) (qAb dS (qAb (dO 8) dNil))))))) (qAb (dRow .i64 3) (qAb (dRow .node 46) (qAb (dClo 43 1 (qAb (dH 2 0) dNil)) (qAb (dClo 44 1 (qAb (dH 2 0) dNil)) (qAb (dClo 45 1 (qAb (dH 2 0) dNil)) dNil))))))))))
def zad_l0:SubQ:=mkL zad_d0 (fun x=>zad_p0 x.1.2.2.2.2.2.1 x.1.2.2.2.2.2.2.1 x.2.2.2.1.1 x.2.2.2.1.2.1 x.2.2.2.1.2.2.1 x.2.2.2.1.2.2.2.1 x.2.2.2.1.2.2.2.2.1 x.2.2.2.1.2.2.2.2.2.1 x.2.2.2.1.2.2.2.2.2.2.1 x.2.2.2.1.2.2.2.2.2.2.2.1 x.2.2.2.2.1.1 x.2.2.2.2.1.2.2.1 x.2.2.2.2.1.2.2.2.2.1 x.2.2.2.2.2.1 x.2.2.2.2.2.2.1) fun x r R kn kx kr=>(Sum.elim (fun (r_0:Int × Int × BA × BA × Bool)=>kr ⟨[sL 2 (.hd 0 0),sL 3 (.vI r_0.1)],[],[.cells 24 [.vI r_0.2.1,.vS r_0.2.2.1,.vS r_0.2.2.2.1,.vB r_0.2.2.2.2]]⟩) (fun (r_1:BA × BA × Bool × Bool × Int × BA × BA × Bool)=>kx 0 ⟨[sL 2 (.hd 0 0),sL 7 (.hd 1 0)],[],[.cells 24 [.vI x.2.1.1,.vS x.2.1.2.1,.vS x.2.1.2.2.1,.vB x.2.1.2.2.2.1],.cells 81 [.vS r_1.1,.vS r_1.2.1,.vB r_1.2.2.1,.vB r_1.2.2.2.1,.vI r_1.2.2.2.2.1,.vS r_1.2.2.2.2.2.1,.vS r_1.2.2.2.2.2.2.1,.vB r_1.2.2.2.2.2.2.2]]⟩)) r
def zad_L:Nat→SubQ:=tblL [(0,zad_l0)]
theorem zad_sub0:qBe zad_L zad_G 0 44 113 0 zad_b0:=qAq (show zad_L 0=zad_l0 from by kernel_rfl) fun x R kn kx kr=>qAt (step:=fun y=>qB0 x.1.2.2.2.2.2.1 y.1 y.2.1 y.2.2.1 y.2.2.2.1 y.2.2.2.2.1 y.2.2.2.2.2.1 y.2.2.2.2.2.2.1 y.2.2.2.2.2.2.2.1 y.2.2.2.2.2.2.2.2 x.2.2.2.2.1.1 x.2.2.2.2.1.2.2.1 x.2.2.2.2.1.2.2.2.2.1 x.2.2.2.2.2.1 x.2.2.2.2.2.2.1) (enc:=fun (y:Int × BA × BA × Bool × Bool × Int × BA × BA × Bool)=>zad_d0.e ((x.1.1,x.1.2.1,x.1.2.2.1,x.1.2.2.2.1,x.1.2.2.2.2.1,x.1.2.2.2.2.2.1,y.1,x.1.2.2.2.2.2.2.2),(x.2.1,x.2.2.1,(y.2.1,y.2.2.1,y.2.2.2.1,y.2.2.2.2.1,y.2.2.2.2.2.1,y.2.2.2.2.2.2.1,y.2.2.2.2.2.2.2.1,y.2.2.2.2.2.2.2.2,x.2.2.2.1.2.2.2.2.2.2.2.2),x.2.2.2.2))) (fun y=>by kernel_rfl) (fun y ki=>by simp only [qB0,-eq_self,qAc,qAg,obA,obS,slL,slR,qAd]; kernel_rfl) (x.1.2.2.2.2.2.2.1,x.2.2.2.1.1,x.2.2.2.1.2.1,x.2.2.2.1.2.2.1,x.2.2.2.1.2.2.2.1,x.2.2.2.1.2.2.2.2.1,x.2.2.2.1.2.2.2.2.2.1,x.2.2.2.1.2.2.2.2.2.2.1,x.2.2.2.1.2.2.2.2.2.2.2.1)
theorem zad_subs:qAp zad_L zad_G 0 44 113 zad_q:=qAk (show qAr zad_L zad_G 0 44 113 [(0,zad_b0)] from ⟨zad_sub0,tV⟩)
def zad_da:=(qAb (dVC (dCO dS)) dNil)
def zad_db:=(dNil:Dec Unit (List SB))
def zad_c:CS:=mkC zad_da zad_db (fun x y=>zad_s x.1) (fun x y r=>.tup [.agg [.vI r.1.alg,.vS r.1.kid,.vS r.1.typ,.vB r.1.hasTyp],.o (.vI r.2)]) fun x y r=>[]
theorem zad_val:qAl Tryd.prog 14 zad_c:=qAn zad_chk 44 zad_Gok 0 (fun x=>Nat.le_of_ble_eq_true rfl) (fun y=>rfl) zad_subs fun x y=>by
 simp only [zad_s,-eq_self,qAc,qAg,obA,obS,slL,slR,qAd];kernel_rfl
def zad_w:CQ:=qDk [] zad_c
theorem zad_ok:qAf Tryd.prog 14 zad_w:=qAu zad_val
def zbl_b0:IQ:=(.loop [0,1,5,6,7] (.seq (.seq (rg 13 [oM 10 t7,oM 11 t6,oP 12 (.len t11),oP 13 (.bi .lss t10 t12)]) (.cond t13 .skip (.cn [5] (.exit 0)))) (.seq (.block 1 (.seq (rg 25 [oM 16 t0,oM 17 t6,oM 18 t7,oP 19 (.iaddr 1 t17 t18),oP 20 (.load none t19),oP 21 (.iaddr 6 t16 t20),oP 22 (.faddr 1 t21),oP 23 (.load none t22),oM 24 t1,oP 25 (.bi .eql t23 t24)]) (.cond t25 (rg 5 [oM 26 t5,oP 27 (.bi .add t26 (vI 1)),oM 5 t27]) .skip))) (rg 7 [oM 14 t7,oP 15 (.bi .add t14 (vI 1)),oM 7 t15]))))
def zbl_q:IQ:=(.seq (rg 4 [oP 4 (.mv (vI 0))]) (.seq (rg 5 [oP 5 (.mv (vI 0))]) (.seq (rg 6 [oM 8 t0,oP 9 (.call 49 [t8,(vI 0)]),oM 6 t9]) (.seq (.seq (rg 7 [oP 7 (.mv (vI 0))]) (.block 0 (.cn [0,1,5,6,7] (.sub 0 zbl_b0)))) (.seq (rg 4 [oM 28 t5,oM 4 t28]) (.cn [4] .ret))))))
theorem zbl_chk:chk Tryd.prog 50 []=some (zbl_q.erase,[.tmp 4],29):=by kernel_rfl
def qEf (name:BA) (n i:Int) (v:List Eng.Node) (l:List Int):Option ((Int × Int) ⊕ Int) :=
 bif decide (i<(l.length:Int)) then (
  gd (0≤i∧i<l.length) <|
  gd ((Int.toNat i)<l.length) <|
  gd (0≤(l.getD (Int.toNat i) (ET.dft .i64))∧(l.getD (Int.toNat i) (ET.dft .i64))<v.length) <|
  gd ((Int.toNat (l.getD (Int.toNat i) (ET.dft .i64)))<v.length) <|
  gd ((Int.toNat (l.getD (Int.toNat i) (ET.dft .i64)))<v.length) <|
  bif decide (((v.getD (Int.toNat (l.getD (Int.toNat i) (ET.dft .i64))) (ET.dft .node)).key)=name) then (
   gd (qAe (n+(1:Int))) <|
   gd (qAe (i+(1:Int))) <|
   some (.inl ((n+(1:Int)),(i+(1:Int)))))
  else (
   gd (qAe (i+(1:Int))) <|
   some (.inl (n,(i+(1:Int))))))
 else (
  some (.inr n))
def zbl_p0 (name:BA) (n i:Int) (v:List Eng.Node) (l:List Int):Option Int :=
 qA6 (fun x:(Int × Int)=>qEf name x.1 x.2 v l) (n,i)
def zbl_s (v:(List Eng.Node)) (name:BA):Option Int :=
 (zbr_s v (0:Int)).bind fun r3 =>
 (zbl_p0 name (0:Int) (0:Int) v r3).bind fun o4 =>
 some o4
def zbl_G:Nat→Option CQ:=tblQ [(49,zbr_w)]
theorem zbl_Gok:∀f C,zbl_G f=some C→qAf Tryd.prog f C:=qAj ⟨zbr_ok,tV⟩
def zbl_d0:=(dQS (qAb (dSO 0 (dO 0)) (qAb (dSO 1 dS) (qAb (dSO 5 dZ) (qAb (dSO 6 (dO 1)) (qAb (dSO 7 dZ) dNil))))) (qAb (qC2 .node) (qAb (dRow .i64 3) dNil)))
def zbl_l0:SubQ:=mkL zbl_d0 (fun x=>zbl_p0 x.1.2.1 x.1.2.2.1 x.1.2.2.2.2.1 x.2.1 x.2.2.1) fun x r R kn kx kr=>kx 0 ⟨[sL 5 (.vI r)],[],[.view .node x.2.1]⟩
def zbl_L:Nat→SubQ:=tblL [(0,zbl_l0)]
theorem zbl_sub0:qBe zbl_L zbl_G 1 8 29 0 zbl_b0:=qAq (show zbl_L 0=zbl_l0 from by kernel_rfl) fun x R kn kx kr=>qAt (step:=fun y=>qEf x.1.2.1 y.1 y.2 x.2.1 x.2.2.1) (enc:=fun (y:Int × Int)=>zbl_d0.e ((x.1.1,x.1.2.1,y.1,x.1.2.2.2.1,y.2,x.1.2.2.2.2.2),x.2)) (fun y=>by kernel_rfl) (fun y ki=>by simp only [qEf,-eq_self,qAc,qAg,obA,obS,slL,slR,qAd]; kernel_rfl) (x.1.2.2.1,x.1.2.2.2.2.1)
theorem zbl_subs:qAp zbl_L zbl_G 1 8 29 zbl_q:=qAk (show qAr zbl_L zbl_G 1 8 29 [(0,zbl_b0)] from ⟨zbl_sub0,tV⟩)
def zbl_da:=(qAb (dVC (dCO (dO 0))) (qAb (dVC (dCO dS)) dNil))
def zbl_db:=(qAb (qC2 .node) dNil)
def zbl_c:CS:=mkC zbl_da zbl_db (fun x y=>zbl_s y.1 x.2.1) (fun x y r=>.c (.o (.vI r))) fun x y r=>[.view .node y.1]
theorem zbl_val:qAl Tryd.prog 50 zbl_c:=qAn zbl_chk 8 zbl_Gok 1 (fun x=>Nat.le_of_ble_eq_true rfl) (fun y=>rfl) zbl_subs fun x y=>by
 simp only [zbl_s,-eq_self,qAc,qAg,obA,obS,slL,slR,qAd];kernel_rfl
def zbl_w:CQ:=qCt [(0,none,some (.node,46))] (qDk [false] zbl_c)
theorem zbl_ok:qAf Tryd.prog 50 zbl_w:=qG2 zbl_val
def zbj_q:IQ:=(.seq (rg 0 [oP 0 (.mv (.v (.slice none 0 0)))]) (.seq (rg 0 [oP 1 (.bslice 9 1 13 [.string ⟨#[]⟩] [(0,(.v (.string ⟨#[]⟩))),(1,(.v (.string ⟨#[72,83,50,53,54]⟩))),(2,(.v (.string ⟨#[72,83,51,56,52]⟩))),(3,(.v (.string ⟨#[72,83,53,49,50]⟩))),(4,(.v (.string ⟨#[82,83,50,53,54]⟩))),(5,(.v (.string ⟨#[82,83,51,56,52]⟩))),(6,(.v (.string ⟨#[82,83,53,49,50]⟩))),(7,(.v (.string ⟨#[80,83,50,53,54]⟩))),(8,(.v (.string ⟨#[80,83,51,56,52]⟩))),(9,(.v (.string ⟨#[80,83,53,49,50]⟩))),(10,(.v (.string ⟨#[69,83,50,53,54]⟩))),(11,(.v (.string ⟨#[69,83,51,56,52]⟩))),(12,(.v (.string ⟨#[69,100,68,83,65]⟩)))]),oM 0 t1]) (.canon [(0,none,.str,9)] [0] .ret)))
theorem zbj_chk:chk Tryd.prog 75 []=some (zbj_q.erase,[.tmp 0],2):=by kernel_rfl
def zbj_s:Option ((List BA)) :=
 some [(⟨#[]⟩:BA),(⟨#[72,83,50,53,54]⟩:BA),(⟨#[72,83,51,56,52]⟩:BA),(⟨#[72,83,53,49,50]⟩:BA),(⟨#[82,83,50,53,54]⟩:BA),(⟨#[82,83,51,56,52]⟩:BA),(⟨#[82,83,53,49,50]⟩:BA),(⟨#[80,83,50,53,54]⟩:BA),(⟨#[80,83,51,56,52]⟩:BA),(⟨#[80,83,53,49,50]⟩:BA),(⟨#[69,83,50,53,54]⟩:BA),(⟨#[69,83,51,56,52]⟩:BA),(⟨#[69,100,68,83,65]⟩:BA)]
def zbj_G:Nat→Option CQ:=tblQ []
theorem zbj_Gok:∀f C,zbj_G f=some C→qAf Tryd.prog f C:=fun f C h=>by cases h
def zbj_L:Nat→SubQ:=tblL []
theorem zbj_subs:qAp zbj_L zbj_G 0 1 2 zbj_q:=qAk (show qAr zbj_L zbj_G 0 1 2 [] from tV)
def zbj_da:=(dNil:Dec Unit (List SV))
def zbj_db:=(dNil:Dec Unit (List SB))
def zbj_c:CS:=mkC zbj_da zbj_db (fun x y=>zbj_s) (fun x y r=>.c (.o (.own 0))) fun x y r=>[.row .str 9 r]
theorem zbj_val:qAl Tryd.prog 75 zbj_c:=qAn zbj_chk 1 zbj_Gok 0 (fun x=>Nat.le_of_ble_eq_true rfl) (fun y=>rfl) zbj_subs fun x y=>by
 simp only [zbj_s,-eq_self,qAc,qAg,obA,obS,slL,slR,qAd];kernel_rfl
def zbj_w:CQ:=qB9 [] zbj_c
theorem zbj_ok:qAf Tryd.prog 75 zbj_w:=qA4 zbj_val
def zbi_b0:IQ:=(.loop [0,3,4] (.seq (.seq (rg 9 [oM 6 t4,oM 7 t3,oP 8 (.len t7),oP 9 (.bi .lss t6 t8)]) (.cond t9 .skip (.cn [] (.exit 0)))) (.seq (.block 1 (.seq (rg 17 [oM 12 t3,oM 13 t4,oP 14 (.iaddr 1 t12 t13),oP 15 (.load none t14),oM 16 t0,oP 17 (.bi .eql t15 t16)]) (.cond t17 (.seq (rg 2 [oM 18 t4,oM 2 t18]) (.cn [2] .ret)) .skip))) (rg 4 [oM 10 t4,oP 11 (.bi .add t10 (vI 1)),oM 4 t11]))))
def zbi_q:IQ:=(.seq (rg 2 [oP 2 (.mv (vI 0))]) (.seq (rg 3 [oP 5 (.call 75 []),oM 3 t5]) (.seq (.seq (rg 4 [oP 4 (.mv (vI 1))]) (.block 0 (.cn [0,3,4] (.sub 0 zbi_b0)))) (.seq (rg 2 [oP 2 (.mv (vI 0))]) (.cn [2] .ret)))))
theorem zbi_chk:chk Tryd.prog 51 []=some (zbi_q.erase,[.tmp 2],19):=by kernel_rfl
def qEe (name:BA) (i:Int) (l:List BA):Option (Int ⊕ (Int ⊕ Unit)) :=
 bif decide (i<(l.length:Int)) then (
  gd (0≤i∧i<l.length) <|
  gd ((Int.toNat i)<l.length) <|
  bif decide ((l.getD (Int.toNat i) (ET.dft .str))=name) then (
   some (.inr (.inl i)))
  else (
   gd (qAe (i+(1:Int))) <|
   some (.inl (i+(1:Int)))))
 else (
  some (.inr (.inr ())))
def zbi_p0 (name:BA) (i:Int) (l:List BA):Option (Int ⊕ Unit) :=
 qA6 (fun x:Int=>qEe name x l) i
def zbi_s (name:BA):Option Int :=
 (zbj_s).bind fun r2 =>
 (zbi_p0 name (1:Int) r2).bind fun o3=>(Sum.elim (fun (o3_0:Int) =>
  some o3_0) (fun (o3_1:Unit) =>
  some (0:Int))) o3
def zbi_G:Nat→Option CQ:=tblQ [(75,zbj_w)]
theorem zbi_Gok:∀f C,zbi_G f=some C→qAf Tryd.prog f C:=qAj ⟨zbj_ok,tV⟩
def zbi_d0:=(dQS (qAb (dSO 0 dS) (qAb (dSO 3 (dO 0)) (qAb (dSO 4 dZ) dNil))) (qAb (dRow .str 9) dNil))
def zbi_l0:SubQ:=mkL zbi_d0 (fun x=>zbi_p0 x.1.1 x.1.2.2.1 x.2.1) fun x r R kn kx kr=>(Sum.elim (fun (r_0:Int)=>kr ⟨[sL 2 (.vI r_0)],[],[]⟩) (fun (r_1:Unit)=>kx 0 ⟨[],[],[]⟩)) r
def zbi_L:Nat→SubQ:=tblL [(0,zbi_l0)]
theorem zbi_sub0:qBe zbi_L zbi_G 0 5 19 0 zbi_b0:=qAq (show zbi_L 0=zbi_l0 from by kernel_rfl) fun x R kn kx kr=>qAt (step:=fun y=>qEe x.1.1 y x.2.1) (enc:=fun (y:Int)=>zbi_d0.e ((x.1.1,x.1.2.1,y,x.1.2.2.2),x.2)) (fun y=>by kernel_rfl) (fun y ki=>by simp only [qEe,-eq_self,qAc,qAg,obA,obS,slL,slR,qAd]; kernel_rfl) x.1.2.2.1
theorem zbi_subs:qAp zbi_L zbi_G 0 5 19 zbi_q:=qAk (show qAr zbi_L zbi_G 0 5 19 [(0,zbi_b0)] from ⟨zbi_sub0,tV⟩)
def zbi_da:=(qAb (dVC (dCO dS)) dNil)
def zbi_db:=(dNil:Dec Unit (List SB))
def zbi_c:CS:=mkC zbi_da zbi_db (fun x y=>zbi_s x.1) (fun x y r=>.c (.o (.vI r))) fun x y r=>[]
theorem zbi_val:qAl Tryd.prog 51 zbi_c:=qAn zbi_chk 5 zbi_Gok 0 (fun x=>Nat.le_of_ble_eq_true rfl) (fun y=>rfl) zbi_subs fun x y=>by
 simp only [zbi_s,-eq_self,qAc,qAg,obA,obS,slL,slR,qAd];kernel_rfl
def zbi_w:CQ:=qDk [] zbi_c
theorem zbi_ok:qAf Tryd.prog 51 zbi_w:=qAu zbi_val
def zbk_b0:IQ:=(.loop [2,4,7,8,9] (.seq (.seq (rg 52 [oM 49 t9,oM 50 t7,oP 51 (.len t50),oP 52 (.bi .lss t49 t51)]) (.cond t52 .skip (.cn [2,8] (.exit 0)))) (.seq (.block 1 (.seq (.seq (rg 63 [oM 55 t4,oM 56 t7,oM 57 t9,oP 58 (.iaddr 1 t56 t57),oP 59 (.load none t58),oP 60 (.iaddr 6 t55 t59),oP 61 (.faddr 0 t60),oP 62 (.load none t61),oP 63 (.bi .neq t62 (vI 5))]) (.cond t63 (.seq (rg 3 [oP 64 (.build [.int .i64 0,.string ⟨#[]⟩,.string ⟨#[]⟩,.bool false] []),oN (.store 4 t2 t64),oP 3 (.mv (vI 110))]) (.cn [2,3] .ret)) .skip)) (.seq (rg 72 [oM 65 t4,oM 66 t7,oM 67 t9,oP 68 (.iaddr 1 t66 t67),oP 69 (.load none t68),oP 70 (.iaddr 6 t65 t69),oP 71 (.faddr 1 t70),oP 72 (.load none t71)]) (.block 2 (.seq (rg 73 [oP 74 (.bi .eql t72 (.v (.string ⟨#[97,108,103]⟩))),oM 73 t74]) (.cond t73 (rg 0 [oM 75 t4,oM 76 t7,oM 77 t9,oP 78 (.iaddr 1 t76 t77),oP 79 (.load none t78),oP 80 (.iaddr 6 t75 t79),oP 81 (.faddr 2 t80),oP 82 (.load none t81),oP 83 (.call 51 [t82]),oP 84 (.faddr 0 t8),oN (.store 1 t84 t83)]) (.seq (rg 85 [oP 86 (.bi .eql t72 (.v (.string ⟨#[107,105,100]⟩))),oM 85 t86]) (.cond t85 (rg 0 [oM 87 t4,oM 88 t7,oM 89 t9,oP 90 (.iaddr 1 t88 t89),oP 91 (.load none t90),oP 92 (.iaddr 6 t87 t91),oP 93 (.faddr 2 t92),oP 94 (.load none t93),oP 95 (.faddr 1 t8),oN (.store 1 t95 t94)]) (.seq (rg 96 [oP 97 (.bi .eql t72 (.v (.string ⟨#[116,121,112]⟩))),oM 96 t97]) (.cond t96 (rg 0 [oM 98 t4,oM 99 t7,oM 100 t9,oP 101 (.iaddr 1 t99 t100),oP 102 (.load none t101),oP 103 (.iaddr 6 t98 t102),oP 104 (.faddr 2 t103),oP 105 (.load none t104),oP 106 (.faddr 2 t8),oN (.store 1 t106 t105)]) .skip)))))))))) (rg 9 [oM 53 t9,oP 54 (.bi .add t53 (vI 1)),oM 9 t54]))))
def zbk_q:IQ:=(.seq (rg 3 [oP 2 (.alloc 24 [.int .i64 0,.string ⟨#[]⟩,.string ⟨#[]⟩,.bool false]),oP 3 (.mv (vI 0))]) (.seq (rg 6 [oM 11 t0,oP 12 (.call 48 [t11]),oM 10 t12,oP 13 (.extract t10 0),oP 14 (.extract t10 1),oP 15 (.extract t10 2),oM 4 t13,oM 5 t14,oM 6 t15]) (.seq (.seq (rg 17 [oM 16 t5,oP 17 (.bi .neq t16 (vI 0))]) (.cond t17 (.seq (rg 3 [oP 18 (.build [.int .i64 0,.string ⟨#[]⟩,.string ⟨#[]⟩,.bool false] []),oM 19 t5,oN (.store 4 t2 t18),oM 3 t19]) (.cn [2,3] .ret)) .skip)) (.seq (.seq (rg 24 [oM 20 t4,oP 21 (.iaddr 6 t20 (vI 0)),oP 22 (.faddr 0 t21),oP 23 (.load none t22),oP 24 (.bi .neq t23 (vI 7))]) (.cond t24 (.seq (rg 3 [oP 25 (.build [.int .i64 0,.string ⟨#[]⟩,.string ⟨#[]⟩,.bool false] []),oN (.store 4 t2 t25),oP 3 (.mv (vI 110))]) (.cn [2,3] .ret)) .skip)) (.seq (rg 7 [oM 26 t4,oP 27 (.call 49 [t26,(vI 0)]),oM 7 t27]) (.seq (.seq (rg 43 [oM 28 t4,oP 29 (.call 50 [t28,(.v (.string ⟨#[97,108,103]⟩))]),oP 30 (.bi .neq t29 (vI 1)),oM 31 t30,oE 32 (.mv t4) 31,oE 33 (.call 50 [t32,(.v (.string ⟨#[107,105,100]⟩))]) 31,oE 34 (.bi .neq t33 (vI 1)) 31,oP 35 (.pick t31 vT t34),oM 36 t35,oE 37 (.mv t7) 36,oE 38 (.len t37) 36,oE 39 (.mv t4) 36,oE 40 (.call 50 [t39,(.v (.string ⟨#[116,121,112]⟩))]) 36,oE 41 (.bi .add (vI 2) t40) 36,oE 42 (.bi .neq t38 t41) 36,oP 43 (.pick t36 vT t42)]) (.cond t43 (.seq (rg 3 [oP 44 (.build [.int .i64 0,.string ⟨#[]⟩,.string ⟨#[]⟩,.bool false] []),oN (.store 4 t2 t44),oP 3 (.mv (vI 110))]) (.cn [2,3] .ret)) .skip)) (.seq (rg 0 [oM 45 t4,oP 46 (.call 50 [t45,(.v (.string ⟨#[116,121,112]⟩))]),oP 47 (.bi .eql t46 (vI 1)),oP 48 (.build [.int .i64 0,.string ⟨#[]⟩,.string ⟨#[]⟩,.bool false] [(3,1,t47)]),oP 8 (.alloc 24 [.int .i64 0,.string ⟨#[]⟩,.string ⟨#[]⟩,.bool false]),oN (.store 4 t8 t48)]) (.seq (.seq (rg 9 [oP 9 (.mv (vI 0))]) (.block 0 (.cn [2,4,7,8,9] (.sub 0 zbk_b0)))) (.seq (.seq (rg 109 [oP 107 (.faddr 0 t8),oP 108 (.load none t107),oP 109 (.bi .eql t108 (vI 0))]) (.cond t109 (.seq (rg 3 [oP 110 (.build [.int .i64 0,.string ⟨#[]⟩,.string ⟨#[]⟩,.bool false] []),oN (.store 4 t2 t110),oP 3 (.mv (vI 111))]) (.cn [2,3] .ret)) .skip)) (.seq (rg 3 [oP 111 (.load (some 4) t8),oN (.store 4 t2 t111),oP 3 (.mv (vI 0))]) (.cn [2,3] .ret)))))))))))
theorem zbk_chk:chk Tryd.prog 15 []=some (zbk_q.erase,[.cell 2 (some 4),.tmp 3],112):=by kernel_rfl
def qCk (i:Int) (v:List Eng.Node) (l:List Int) (qH4:Int) (qH5 qH6:BA):Option ((Int × Int × BA × BA) ⊕ ((Int × Int × BA × BA × Bool) ⊕ (Int × BA × BA))) :=
 bif decide (i<(l.length:Int)) then (
  gd (0≤i∧i<l.length) <|
  gd ((Int.toNat i)<l.length) <|
  gd (0≤(l.getD (Int.toNat i) (ET.dft .i64))∧(l.getD (Int.toNat i) (ET.dft .i64))<v.length) <|
  gd ((Int.toNat (l.getD (Int.toNat i) (ET.dft .i64)))<v.length) <|
  gd ((Int.toNat (l.getD (Int.toNat i) (ET.dft .i64)))<v.length) <|
  bif (!decide (((v.getD (Int.toNat (l.getD (Int.toNat i) (ET.dft .i64))) (ET.dft .node)).kind)=(5:Int))) then (
   some (.inr (.inl ((110:Int),(0:Int),(⟨#[]⟩:BA),(⟨#[]⟩:BA),false))))
  else (
   gd (0≤i∧i<l.length) <|
   gd ((Int.toNat i)<l.length) <|
   gd (0≤(l.getD (Int.toNat i) (ET.dft .i64))∧(l.getD (Int.toNat i) (ET.dft .i64))<v.length) <|
   gd ((Int.toNat (l.getD (Int.toNat i) (ET.dft .i64)))<v.length) <|
   gd ((Int.toNat (l.getD (Int.toNat i) (ET.dft .i64)))<v.length) <|
   bif decide (((v.getD (Int.toNat (l.getD (Int.toNat i) (ET.dft .i64))) (ET.dft .node)).key)=(⟨#[97,108,103]⟩:BA)) then (
    gd (0≤i∧i<l.length) <|
    gd ((Int.toNat i)<l.length) <|
    gd (0≤(l.getD (Int.toNat i) (ET.dft .i64))∧(l.getD (Int.toNat i) (ET.dft .i64))<v.length) <|
    gd ((Int.toNat (l.getD (Int.toNat i) (ET.dft .i64)))<v.length) <|
    gd ((Int.toNat (l.getD (Int.toNat i) (ET.dft .i64)))<v.length) <|
    (zbi_s ((v.getD (Int.toNat (l.getD (Int.toNat i) (ET.dft .i64))) (ET.dft .node)).text)).bind fun r35 =>
    gd (qAe (i+(1:Int))) <|
    some (.inl ((i+(1:Int)),r35,qH5,qH6)))
   else (
    bif decide (((v.getD (Int.toNat (l.getD (Int.toNat i) (ET.dft .i64))) (ET.dft .node)).key)=(⟨#[107,105,100]⟩:BA)) then (
     gd (0≤i∧i<l.length) <|
     gd ((Int.toNat i)<l.length) <|
     gd (0≤(l.getD (Int.toNat i) (ET.dft .i64))∧(l.getD (Int.toNat i) (ET.dft .i64))<v.length) <|
     gd ((Int.toNat (l.getD (Int.toNat i) (ET.dft .i64)))<v.length) <|
     gd ((Int.toNat (l.getD (Int.toNat i) (ET.dft .i64)))<v.length) <|
     gd (qAe (i+(1:Int))) <|
     some (.inl ((i+(1:Int)),qH4,(v.getD (Int.toNat (l.getD (Int.toNat i) (ET.dft .i64))) (ET.dft .node)).text,qH6)))
    else (
     bif decide (((v.getD (Int.toNat (l.getD (Int.toNat i) (ET.dft .i64))) (ET.dft .node)).key)=(⟨#[116,121,112]⟩:BA)) then (
      gd (0≤i∧i<l.length) <|
      gd ((Int.toNat i)<l.length) <|
      gd (0≤(l.getD (Int.toNat i) (ET.dft .i64))∧(l.getD (Int.toNat i) (ET.dft .i64))<v.length) <|
      gd ((Int.toNat (l.getD (Int.toNat i) (ET.dft .i64)))<v.length) <|
      gd ((Int.toNat (l.getD (Int.toNat i) (ET.dft .i64)))<v.length) <|
      gd (qAe (i+(1:Int))) <|
      some (.inl ((i+(1:Int)),qH4,qH5,(v.getD (Int.toNat (l.getD (Int.toNat i) (ET.dft .i64))) (ET.dft .node)).text)))
     else (
      gd (qAe (i+(1:Int))) <|
      some (.inl ((i+(1:Int)),qH4,qH5,qH6)))))))
 else (
  some (.inr (.inr (qH4,qH5,qH6))))
def zbk_p0 (i:Int) (v:List Eng.Node) (l:List Int) (qH4:Int) (qH5 qH6:BA):Option ((Int × Int × BA × BA × Bool) ⊕ (Int × BA × BA)) :=
 qA6 (fun x:(Int × Int × BA × BA)=>qCk x.1 v l x.2.1 x.2.2.1 x.2.2.2) (i,qH4,qH5,qH6)
def zbk_s (text:BA):Option (qHl × Int) :=
 (zbs_s text).bind fun r29 =>
 bif (!decide (r29.2.1=(0:Int))) then (
  some ((⟨(0:Int),(⟨#[]⟩:BA),(⟨#[]⟩:BA),false⟩:qHl),r29.2.1))
 else (
  gd (0≤(0:Int)∧(0:Int)<r29.1.length) <|
  gd ((Int.toNat (0:Int))<r29.1.length) <|
  gd ((Int.toNat (0:Int))<r29.1.length) <|
  bif (!decide (((r29.1.getD (Int.toNat (0:Int)) (ET.dft .node)).kind)=(7:Int))) then (
   some ((⟨(0:Int),(⟨#[]⟩:BA),(⟨#[]⟩:BA),false⟩:qHl),(110:Int)))
  else (
   (zbr_s r29.1 (0:Int)).bind fun r30 =>
   (zbl_s r29.1 (⟨#[97,108,103]⟩:BA)).bind fun r31 =>
   bif (!decide (r31=(1:Int))) then (
    some ((⟨(0:Int),(⟨#[]⟩:BA),(⟨#[]⟩:BA),false⟩:qHl),(110:Int)))
   else (
    (zbl_s r29.1 (⟨#[107,105,100]⟩:BA)).bind fun r32 =>
    bif (!decide (r32=(1:Int))) then (
     some ((⟨(0:Int),(⟨#[]⟩:BA),(⟨#[]⟩:BA),false⟩:qHl),(110:Int)))
    else (
     (zbl_s r29.1 (⟨#[116,121,112]⟩:BA)).bind fun r33 =>
     gd (qAe ((2:Int)+r33)) <|
     bif (!decide ((r30.length:Int)=((2:Int)+r33))) then (
      some ((⟨(0:Int),(⟨#[]⟩:BA),(⟨#[]⟩:BA),false⟩:qHl),(110:Int)))
     else (
      (zbl_s r29.1 (⟨#[116,121,112]⟩:BA)).bind fun r34 =>
      (zbk_p0 (0:Int) r29.1 r30 (0:Int) (⟨#[]⟩:BA) (⟨#[]⟩:BA)).bind fun o36=>(Sum.elim (fun (o36_0:Int × Int × BA × BA × Bool) =>
       some ((⟨o36_0.2.1,o36_0.2.2.1,o36_0.2.2.2.1,o36_0.2.2.2.2⟩:qHl),o36_0.1)) (fun (o36_1:Int × BA × BA) =>
       bif decide (o36_1.1=(0:Int)) then (
        some ((⟨(0:Int),(⟨#[]⟩:BA),(⟨#[]⟩:BA),false⟩:qHl),(111:Int)))
       else (
        some ((⟨o36_1.1,o36_1.2.1,o36_1.2.2,decide (r34=(1:Int))⟩:qHl),(0:Int))))) o36)))))
def zbk_G:Nat→Option CQ:=tblQ [(48,zbs_w),(49,zbr_w),(50,zbl_w),(51,zbi_w)]
theorem zbk_Gok:∀f C,zbk_G f=some C→qAf Tryd.prog f C:=qAj ⟨zbs_ok,zbr_ok,zbl_ok,zbi_ok,tV⟩
def zbk_d0:=(dQS (qAb (dSO 2 (dH 0 0)) (qAb (dSO 4 (dO 1)) (qAb (dSO 7 (dO 2)) (qAb (dSO 8 (dH 3 0)) (qAb (dSO 9 dZ) dNil))))) (qAb (qDt 24 zDJW1) (qAb (dRow .node 46) (qAb (dRow .i64 3) (qAb (qDt 24 zDJW1) dNil)))))
def zbk_l0:SubQ:=mkL zbk_d0 (fun x=>zbk_p0 x.1.2.2.2.2.1 x.2.2.1 x.2.2.2.1 x.2.2.2.2.1.1 x.2.2.2.2.1.2.1 x.2.2.2.2.1.2.2.1) fun x r R kn kx kr=>(Sum.elim (fun (r_0:Int × Int × BA × BA × Bool)=>kr ⟨[sL 2 (.hd 0 0),sL 3 (.vI r_0.1)],[],[.cells 24 [.vI r_0.2.1,.vS r_0.2.2.1,.vS r_0.2.2.2.1,.vB r_0.2.2.2.2]]⟩) (fun (r_1:Int × BA × BA)=>kx 0 ⟨[sL 2 (.hd 0 0),sL 8 (.hd 1 0)],[],[.cells 24 [.vI x.2.1.1,.vS x.2.1.2.1,.vS x.2.1.2.2.1,.vB x.2.1.2.2.2.1],.cells 24 [.vI r_1.1,.vS r_1.2.1,.vS r_1.2.2,.vB x.2.2.2.2.1.2.2.2.1]]⟩)) r
def zbk_L:Nat→SubQ:=tblL [(0,zbk_l0)]
theorem zbk_sub0:qBe zbk_L zbk_G 0 73 112 0 zbk_b0:=qAq (show zbk_L 0=zbk_l0 from by kernel_rfl) fun x R kn kx kr=>qAt (step:=fun y=>qCk y.1 x.2.2.1 x.2.2.2.1 y.2.1 y.2.2.1 y.2.2.2) (enc:=fun (y:Int × Int × BA × BA)=>zbk_d0.e ((x.1.1,x.1.2.1,x.1.2.2.1,x.1.2.2.2.1,y.1,x.1.2.2.2.2.2),(x.2.1,x.2.2.1,x.2.2.2.1,(y.2.1,y.2.2.1,y.2.2.2,x.2.2.2.2.1.2.2.2),x.2.2.2.2.2))) (fun y=>by kernel_rfl) (fun y ki=>by simp only [qCk,-eq_self,qAc,qAg,obA,obS,slL,slR,qAd]; kernel_rfl) (x.1.2.2.2.2.1,x.2.2.2.2.1.1,x.2.2.2.2.1.2.1,x.2.2.2.2.1.2.2.1)
theorem zbk_subs:qAp zbk_L zbk_G 0 73 112 zbk_q:=qAk (show qAr zbk_L zbk_G 0 73 112 [(0,zbk_b0)] from ⟨zbk_sub0,tV⟩)
def zbk_da:=(qAb (dVC (dCO dS)) dNil)
def zbk_db:=(dNil:Dec Unit (List SB))
def zbk_c:CS:=mkC zbk_da zbk_db (fun x y=>zbk_s x.1) (fun x y r=>.tup [.agg [.vI r.1.alg,.vS r.1.kid,.vS r.1.typ,.vB r.1.hasTyp],.o (.vI r.2)]) fun x y r=>[]
theorem zbk_val:qAl Tryd.prog 15 zbk_c:=qAn zbk_chk 73 zbk_Gok 0 (fun x=>Nat.le_of_ble_eq_true rfl) (fun y=>rfl) zbk_subs fun x y=>by
 simp only [zbk_s,-eq_self,qAc,qAg,obA,obS,slL,slR,qAd];kernel_rfl
def zbk_w:CQ:=qDk [] zbk_c
theorem zbk_ok:qAf Tryd.prog 15 zbk_w:=qAu zbk_val
def zbh_q:IQ:=(.seq (rg 2 [oP 2 (.mv vF)]) (.seq (rg 4 [oM 8 t0,oP 9 (.call 14 [t8]),oM 7 t9,oP 10 (.extract t7 0),oP 11 (.extract t7 1),oP 3 (.alloc 24 [.int .i64 0,.string ⟨#[]⟩,.string ⟨#[]⟩,.bool false]),oN (.store 4 t3 t10),oM 4 t11]) (.seq (rg 6 [oM 13 t0,oP 14 (.call 15 [t13]),oM 12 t14,oP 15 (.extract t12 0),oP 16 (.extract t12 1),oP 5 (.alloc 24 [.int .i64 0,.string ⟨#[]⟩,.string ⟨#[]⟩,.bool false]),oN (.store 4 t5 t15),oM 6 t16]) (.seq (rg 2 [oP 17 (.load (some 4) t3),oP 18 (.load (some 4) t5),oP 19 (.ext (.aggEq false [.int .i64,.str,.str,.bool]) [t17,t18]),oM 20 t19,oF 21 (.mv t4) 20,oF 22 (.mv t6) 20,oF 23 (.bi .eql t21 t22) 20,oP 24 (.pick t20 t23 vF),oM 2 t24]) (.cn [2] .ret)))))
theorem zbh_chk:chk Tryd.prog 3 []=some (zbh_q.erase,[.tmp 2],25):=by kernel_rfl
def zbh_s (text:BA):Option Bool :=
 (zad_s text).bind fun r1 =>
 (zbk_s text).bind fun r2 =>
 some ((decide (r1.1.alg=r2.1.alg) && (decide (r1.1.kid=r2.1.kid) && (decide (r1.1.typ=r2.1.typ) && ((r1.1.hasTyp == r2.1.hasTyp) && true)))) && (decide (r1.2=r2.2)))
def zbh_G:Nat→Option CQ:=tblQ [(14,zad_w),(15,zbk_w)]
theorem zbh_Gok:∀f C,zbh_G f=some C→qAf Tryd.prog f C:=qAj ⟨zad_ok,zbk_ok,tV⟩
def zbh_L:Nat→SubQ:=tblL []
theorem zbh_subs:qAp zbh_L zbh_G 0 7 25 zbh_q:=qAk (show qAr zbh_L zbh_G 0 7 25 [] from tV)
def zbh_da:=(qAb (dVC (dCO dS)) dNil)
def zbh_db:=(dNil:Dec Unit (List SB))
def zbh_c:CS:=mkC zbh_da zbh_db (fun x y=>zbh_s x.1) (fun x y r=>.c (.o (.vB r))) fun x y r=>[]
theorem zbh_val:qAl Tryd.prog 3 zbh_c:=qAn zbh_chk 7 zbh_Gok 0 (fun x=>Nat.le_of_ble_eq_true rfl) (fun y=>rfl) zbh_subs fun x y=>by
 simp only [zbh_s,-eq_self,qAc,qAg,obA,obS,slL,slR,qAd];kernel_rfl
end
end Go.Proofs.YticplgndjpljiaaDoor
