/-
  Functions as the engine reads them (printed by gen.py).
-/
import Derived.Test.YticplgndjpljiaaDoorEngO
import Derived.Test.YticplgndjpljiaaDoorProg
import Derived.Test.YticplgndjpljiaaDoorJS
import Derived.Test.YticplgndjpljiaaDoorKeyOf
import Derived.Test.YticplgndjpljiaaDoorGC
import Derived.Test.YticplgndjpljiaaDoorPShaped
import Derived.Test.YticplgndjpljiaaDoorJP
import Derived.Test.YticplgndjpljiaaDoorPLexQ
namespace Go.Proofs.YticplgndjpljiaaDoor
open Go.Eng
set_option linter.unusedVariables false
set_option linter.unusedSimpArgs false
set_option maxRecDepth 100000
noncomputable section
structure qH9 where
 alg:Int
 kid:BA
 typ:BA
 hasTyp:Bool
structure header_reader where
 alg:BA
 kid:BA
 hasAlg:Bool
 hasKid:Bool
 out:qH9
structure qHy where
 addr:Bool
 buf:(List Int)
structure qIf where
 algs:(List BA)
 iss:BA
 hasIss:Bool
 aud:BA
 hasAud:Bool
 typ:BA
 hasTyp:Bool
 leeway:Int
 need:(List BA)
def zah_q:IQ:=(.join [] [] (rg 0 ([oM 4 t0,oM 5 t0,oM 6 t1]++rS 7 t4 0 t6++rS 9 t5 2 vT)))
theorem zah_chk:chk Tryd.prog 43 []=some (zah_q.erase,[],11):=by kernel_rfl
def zah_s (r_:header_reader) (s:BA):Option header_reader :=
 some {r_ with alg:=s,hasAlg:=true:header_reader}
def zah_G:Nat→Option CQ:=tblQ []
theorem zah_Gok:∀f C,zah_G f=some C→qAf Tryd.prog f C:=fun f C h=>by cases h
def zah_L:Nat→SubQ:=tblL []
theorem zah_subs:qAo zah_L zah_G 1 4 11 zah_q:=qAl (show qAr zah_L zah_G 1 4 11 [] from tV)
def zah_da:=(qAb (dVC (dCO (dH 0 0))) (qAb (dVC (dCO dS)) dNil))
def zDJW1:=(qAb dZ (qAb dS (qAb dS (qAb dB dNil))))
def zDJW3:=(qF9 81 (qAb dS (qAb dS (qAb dB (qAb dB zDJW1)))))
def zah_db:=(qAb zDJW3 dNil)
def zah_c:CS:=mkC zah_da zah_db (fun x y=>zah_s (⟨y.1.1,y.1.2.1,y.1.2.2.1,y.1.2.2.2.1,(⟨y.1.2.2.2.2.1,y.1.2.2.2.2.2.1,y.1.2.2.2.2.2.2.1,y.1.2.2.2.2.2.2.2.1⟩:qH9)⟩:header_reader) x.2.1) (fun x y r=>.tup []) fun x y r=>[.cells 81 [.vS r.alg,.vS r.kid,.vB r.hasAlg,.vB r.hasKid,.vI r.out.alg,.vS r.out.kid,.vS r.out.typ,.vB r.out.hasTyp]]
theorem zah_val:qAm Tryd.prog 43 zah_c:=qAn zah_chk 4 zah_Gok 1 (fun x=>Nat.le_of_ble_eq_true rfl) (fun y=>rfl) zah_subs fun x y=>by
 simp only [zah_s,-eq_self,qAd,qAh,obA,obS,slL,slR,qAc];kernel_rfl
def zah_w:CQ:=qC3 [true] zah_c
theorem zah_ok:qAf Tryd.prog 43 zah_w:=liftQ_valid zah_val
def zai_q:IQ:=(.join [] [] (rg 0 ([oM 4 t0,oM 5 t0,oM 6 t1]++rS 7 t4 1 t6++rS 9 t5 3 vT)))
theorem zai_chk:chk Tryd.prog 44 []=some (zai_q.erase,[],11):=by kernel_rfl
def zai_s (r_:header_reader) (s:BA):Option header_reader :=
 some {r_ with kid:=s,hasKid:=true:header_reader}
def zai_G:Nat→Option CQ:=tblQ []
theorem zai_Gok:∀f C,zai_G f=some C→qAf Tryd.prog f C:=fun f C h=>by cases h
def zai_L:Nat→SubQ:=tblL []
theorem zai_subs:qAo zai_L zai_G 1 4 11 zai_q:=qAl (show qAr zai_L zai_G 1 4 11 [] from tV)
def zai_da:=(qAb (dVC (dCO (dH 0 0))) (qAb (dVC (dCO dS)) dNil))
def zai_db:=(qAb zDJW3 dNil)
def zai_c:CS:=mkC zai_da zai_db (fun x y=>zai_s (⟨y.1.1,y.1.2.1,y.1.2.2.1,y.1.2.2.2.1,(⟨y.1.2.2.2.2.1,y.1.2.2.2.2.2.1,y.1.2.2.2.2.2.2.1,y.1.2.2.2.2.2.2.2.1⟩:qH9)⟩:header_reader) x.2.1) (fun x y r=>.tup []) fun x y r=>[.cells 81 [.vS r.alg,.vS r.kid,.vB r.hasAlg,.vB r.hasKid,.vI r.out.alg,.vS r.out.kid,.vS r.out.typ,.vB r.out.hasTyp]]
theorem zai_val:qAm Tryd.prog 44 zai_c:=qAn zai_chk 4 zai_Gok 1 (fun x=>Nat.le_of_ble_eq_true rfl) (fun y=>rfl) zai_subs fun x y=>by
 simp only [zai_s,-eq_self,qAd,qAh,obA,obS,slL,slR,qAc];kernel_rfl
def zai_w:CQ:=qC3 [true] zai_c
theorem zai_ok:qAf Tryd.prog 44 zai_w:=liftQ_valid zai_val
def zaj_q:IQ:=(.join [] [] (rg 0 [oM 4 t0,oM 5 t0,oM 6 t1,oP 7 (.nk t4),oP 8 (.faddr 4 t7),oP 9 (.faddr 2 t8),oN (.store 1 t9 t6),oP 10 (.nk t5),oP 11 (.faddr 4 t10),oP 12 (.faddr 3 t11),oN (.store 1 t12 vT)]))
theorem zaj_chk:chk Tryd.prog 45 []=some (zaj_q.erase,[],13):=by kernel_rfl
def zaj_s (r_:header_reader) (s:BA):Option header_reader :=
 some {r_ with out:=(⟨r_.out.alg,r_.out.kid,s,true⟩:qH9):header_reader}
def zaj_G:Nat→Option CQ:=tblQ []
theorem zaj_Gok:∀f C,zaj_G f=some C→qAf Tryd.prog f C:=fun f C h=>by cases h
def zaj_L:Nat→SubQ:=tblL []
theorem zaj_subs:qAo zaj_L zaj_G 1 4 13 zaj_q:=qAl (show qAr zaj_L zaj_G 1 4 13 [] from tV)
def zaj_da:=(qAb (dVC (dCO (dH 0 0))) (qAb (dVC (dCO dS)) dNil))
def zaj_db:=(qAb zDJW3 dNil)
def zaj_c:CS:=mkC zaj_da zaj_db (fun x y=>zaj_s (⟨y.1.1,y.1.2.1,y.1.2.2.1,y.1.2.2.2.1,(⟨y.1.2.2.2.2.1,y.1.2.2.2.2.2.1,y.1.2.2.2.2.2.2.1,y.1.2.2.2.2.2.2.2.1⟩:qH9)⟩:header_reader) x.2.1) (fun x y r=>.tup []) fun x y r=>[.cells 81 [.vS r.alg,.vS r.kid,.vB r.hasAlg,.vB r.hasKid,.vI r.out.alg,.vS r.out.kid,.vS r.out.typ,.vB r.out.hasTyp]]
theorem zaj_val:qAm Tryd.prog 45 zaj_c:=qAn zaj_chk 4 zaj_Gok 1 (fun x=>Nat.le_of_ble_eq_true rfl) (fun y=>rfl) zaj_subs fun x y=>by
 simp only [zaj_s,-eq_self,qAd,qAh,obA,obS,slL,slR,qAc];kernel_rfl
def zaj_w:CQ:=qC3 [true] zaj_c
theorem zaj_ok:qAf Tryd.prog 45 zaj_w:=liftQ_valid zaj_val
def zaf_b0:IQ:=(.loop [2,4,7,8,41,42,43] (.seq (rg 44 [oP 44 (.bi .lss t43 t42)]) (.seq (.cond t44 .skip (.cn [2,7] (.exit 0))) (.seq (.block 1 (.seq (rg 0 [oP 45 (.iaddr 1 t41 t43),oP 46 (.load none t45),oP 10 (.alloc 3 [.int .i64 0]),oN (.store 1 t10 t46)]) (.seq (rg 11 [oP 47 (.ext (.asl 3 2) [t8]),oP 48 (.ext (.mkfn 47 0) [t4,t10]),oP 49 (.call 46 [t47,t48]),oM 11 t49]) (.seq (.seq (rg 59 [oM 50 t11,oP 51 (.bi .lss t50 (vI 0)),oM 52 t51,oE 53 (.load none t4) 52,oE 54 (.load none t10) 52,oE 55 (.iaddr 6 t53 t54) 52,oE 56 (.faddr 0 t55) 52,oE 57 (.load none t56) 52,oE 58 (.bi .neq t57 (vI 5)) 52,oP 59 (.pick t52 vT t58)]) (.cond t59 (.seq (rg 3 [oP 60 (.build [.int .i64 0,.string ⟨#[]⟩,.string ⟨#[]⟩,.bool false] []),oN (.store 4 t2 t60),oP 3 (.mv (vI 110))]) (.cn [2,3] .ret)) .skip)) (.regL 70 [0,1,2,3,4,5,6,7,8] 9 [oM 61 t11,oP 62 (.ext (.pidx 3 2) [t8,t61]),oP 63 (.faddr 1 t62),oP 64 (.load none t63),oP 65 (.load none t4),oP 66 (.load none t10),oP 67 (.iaddr 6 t65 t66),oP 68 (.faddr 2 t67),oP 69 (.load none t68)] ⟨(some 70),.callV t64 [t69],none⟩))))) (rg 43 [oP 71 (.bi .add t43 (vI 1)),oM 43 t71])))))
def zaf_q:IQ:=(.seq (rg 3 [oP 2 (.alloc 24 [.int .i64 0,.string ⟨#[]⟩,.string ⟨#[]⟩,.bool false]),oP 3 (.mv (vI 0))]) (.seq (rg 6 [oM 13 t0,oP 14 (.call 20 [t13]),oM 12 t14,oP 15 (.extract t12 0),oP 16 (.extract t12 1),oP 17 (.extract t12 2),oP 4 (.alloc 40 [.slice none 0 0]),oN (.store 1 t4 t15),oM 5 t16,oM 6 t17]) (.seq (.seq (rg 19 [oM 18 t5,oP 19 (.bi .neq t18 (vI 0))]) (.cond t19 (.seq (rg 3 [oP 20 (.build [.int .i64 0,.string ⟨#[]⟩,.string ⟨#[]⟩,.bool false] []),oM 21 t5,oN (.store 4 t2 t20),oM 3 t21]) (.cn [2,3] .ret)) .skip)) (.seq (.seq (rg 26 [oP 22 (.load none t4),oP 23 (.iaddr 6 t22 (vI 0)),oP 24 (.faddr 0 t23),oP 25 (.load none t24),oP 26 (.bi .neq t25 (vI 7))]) (.cond t26 (.seq (rg 3 [oP 27 (.build [.int .i64 0,.string ⟨#[]⟩,.string ⟨#[]⟩,.bool false] []),oN (.store 4 t2 t27),oP 3 (.mv (vI 110))]) (.cn [2,3] .ret)) .skip)) (.seq (rg 7 [oP 28 (.build [.string ⟨#[]⟩,.string ⟨#[]⟩,.bool false,.bool false,.int .i64 0,.string ⟨#[]⟩,.string ⟨#[]⟩,.bool false] []),oP 29 (.box 81 8 t28),oM 7 t29]) (.seq (rg 0 [oM 30 t7,oP 31 (.ext (.mkfn 43 1) [t30]),oP 32 (.build [.string ⟨#[]⟩,.nilFunc] [(0,1,(.v (.string ⟨#[97,108,103]⟩))),(1,1,t31)]),oM 33 t7,oP 34 (.ext (.mkfn 44 1) [t33]),oP 35 (.build [.string ⟨#[]⟩,.nilFunc] [(0,1,(.v (.string ⟨#[107,105,100]⟩))),(1,1,t34)]),oM 36 t7,oP 37 (.ext (.mkfn 45 1) [t36]),oP 38 (.build [.string ⟨#[]⟩,.nilFunc] [(0,1,(.v (.string ⟨#[116,121,112]⟩))),(1,1,t37)]),oP 39 (.build [.string ⟨#[]⟩,.nilFunc,.string ⟨#[]⟩,.nilFunc,.string ⟨#[]⟩,.nilFunc] [(0,2,t32),(2,2,t35),(4,2,t38)]),oP 8 (.alloc 85 [.string ⟨#[]⟩,.nilFunc,.string ⟨#[]⟩,.nilFunc,.string ⟨#[]⟩,.nilFunc]),oN (.store 6 t8 t39)]) (.seq (.seq (rg 43 [oP 40 (.load none t4),oP 41 (.call 29 [t40,(vI 0)]),oP 42 (.len t41),oP 43 (.mv (vI 0))]) (.block 0 (.cn [2,4,7,8,41,42,43] (.sub 0 zaf_b0)))) (.seq (.seq (rg 83 (rF 72 t7 2++[oP 76 (.un .not t75),oM 77 t76]++rH oE 78 t7 3 77++[oE 82 (.un .not t81) 77,oP 83 (.pick t77 vT t82)])) (.cond t83 (.seq (rg 3 [oP 84 (.build [.int .i64 0,.string ⟨#[]⟩,.string ⟨#[]⟩,.bool false] []),oN (.store 4 t2 t84),oP 3 (.mv (vI 110))]) (.cn [2,3] .ret)) .skip)) (.seq (.reg 0 (some [0,1,2,3,4,5,7,8,9,10,6,11,12,13,14,15,16,17,18]) ([oM 85 t7,oM 86 t7]++rF 87 t7 0++rF 92 t7 1++[oP 91 (.call 22 [t90]),oP 96 (.nk t85),oP 97 (.faddr 4 t96),oP 98 (.faddr 0 t97),oN (.store 1 t98 t91),oP 99 (.nk t86),oP 100 (.faddr 4 t99),oP 101 (.faddr 1 t100),oN (.store 1 t101 t95)])) (.seq (.seq (rg 107 [oM 102 t7,oP 103 (.nk t102),oP 104 (.faddr 4 t103),oP 105 (.faddr 0 t104),oP 106 (.load none t105),oP 107 (.bi .eql t106 (vI 0))]) (.cond t107 (.seq (rg 3 [oP 108 (.build [.int .i64 0,.string ⟨#[]⟩,.string ⟨#[]⟩,.bool false] []),oN (.store 4 t2 t108),oP 3 (.mv (vI 111))]) (.cn [2,3] .ret)) .skip)) (.seq (rg 3 [oM 109 t7,oP 110 (.nk t109),oP 111 (.faddr 4 t110),oP 112 (.load (some 4) t111),oN (.store 4 t2 t112),oP 3 (.mv (vI 0))]) (.cn [2,3] .ret))))))))))))
theorem zaf_chk:chk Tryd.prog 14 []=some (zaf_q.erase,[.cell 2 (some 4),.tmp 3],113):=by kernel_rfl
def qB6 (x42_ x43_:Int) (qIq qIr:BA) (qIk qIl:Bool) (qIh:Int) (qIi qIj:BA) (qIc:Bool) (fields_c0 fields_c2 fields_c4:BA) (x41_:List Int) (v_v:List Eng.Node):Option ((Int × BA × BA × Bool × Bool × Int × BA × BA × Bool) ⊕ ((Int × Int × BA × BA × Bool) ⊕ (BA × BA × Bool × Bool × Int × BA × BA × Bool))) :=
 bif decide (x43_<x42_) then (
  gd (0≤x43_∧x43_<x41_.length) <|
  gd ((Int.toNat x43_)<x41_.length) <|
  gd (0≤(0:Int)∧(0:Int)<((3:Nat):Int)) <|
  gd (0≤(x41_.getD (Int.toNat x43_) (ET.dft .i64))∧(x41_.getD (Int.toNat x43_) (ET.dft .i64))<v_v.length) <|
  gd ((Int.toNat (x41_.getD (Int.toNat x43_) (ET.dft .i64)))<v_v.length) <|
  gd ((Int.toNat (x41_.getD (Int.toNat x43_) (ET.dft .i64)))<v_v.length) <|
  bif decide (fields_c0=((v_v.getD (Int.toNat (x41_.getD (Int.toNat x43_) (ET.dft .i64))) (ET.dft .node)).key)) then (
   gd (false=false→0≤(x41_.getD (Int.toNat x43_) (ET.dft .i64))∧(x41_.getD (Int.toNat x43_) (ET.dft .i64))<v_v.length) <|
   gd (false=false→(Int.toNat (x41_.getD (Int.toNat x43_) (ET.dft .i64)))<v_v.length) <|
   gd (false=false→(Int.toNat (x41_.getD (Int.toNat x43_) (ET.dft .i64)))<v_v.length) <|
   bif (!decide (((v_v.getD (Int.toNat (x41_.getD (Int.toNat x43_) (ET.dft .i64))) (ET.dft .node)).kind)=(5:Int))) then (
    some (.inr (.inl ((110:Int),(0:Int),(⟨#[]⟩:BA),(⟨#[]⟩:BA),false))))
   else (
    gd (0≤(0:Int)∧(0:Int)<((3:Nat):Int)) <|
    gd (0≤(x41_.getD (Int.toNat x43_) (ET.dft .i64))∧(x41_.getD (Int.toNat x43_) (ET.dft .i64))<v_v.length) <|
    gd ((Int.toNat (x41_.getD (Int.toNat x43_) (ET.dft .i64)))<v_v.length) <|
    gd ((Int.toNat (x41_.getD (Int.toNat x43_) (ET.dft .i64)))<v_v.length) <|
    (zah_s (⟨qIq,qIr,qIk,qIl,(⟨qIh,qIi,qIj,qIc⟩:qH9)⟩:header_reader) ((v_v.getD (Int.toNat (x41_.getD (Int.toNat x43_) (ET.dft .i64))) (ET.dft .node)).text)).bind fun r30 =>
    gd (qAe (x43_+(1:Int))) <|
    some (.inl ((x43_+(1:Int)),r30.alg,r30.kid,r30.hasAlg,r30.hasKid,r30.out.alg,r30.out.kid,r30.out.typ,r30.out.hasTyp))))
  else (
   gd (qAe ((0:Int)+(1:Int))) <|
   gd (0≤((0:Int)+(1:Int))∧((0:Int)+(1:Int))<((3:Nat):Int)) <|
   gd (0≤(x41_.getD (Int.toNat x43_) (ET.dft .i64))∧(x41_.getD (Int.toNat x43_) (ET.dft .i64))<v_v.length) <|
   gd ((Int.toNat (x41_.getD (Int.toNat x43_) (ET.dft .i64)))<v_v.length) <|
   gd ((Int.toNat (x41_.getD (Int.toNat x43_) (ET.dft .i64)))<v_v.length) <|
   bif decide (fields_c2=((v_v.getD (Int.toNat (x41_.getD (Int.toNat x43_) (ET.dft .i64))) (ET.dft .node)).key)) then (
    gd (false=false→0≤(x41_.getD (Int.toNat x43_) (ET.dft .i64))∧(x41_.getD (Int.toNat x43_) (ET.dft .i64))<v_v.length) <|
    gd (false=false→(Int.toNat (x41_.getD (Int.toNat x43_) (ET.dft .i64)))<v_v.length) <|
    gd (false=false→(Int.toNat (x41_.getD (Int.toNat x43_) (ET.dft .i64)))<v_v.length) <|
    bif (!decide (((v_v.getD (Int.toNat (x41_.getD (Int.toNat x43_) (ET.dft .i64))) (ET.dft .node)).kind)=(5:Int))) then (
     some (.inr (.inl ((110:Int),(0:Int),(⟨#[]⟩:BA),(⟨#[]⟩:BA),false))))
    else (
     gd (0≤((0:Int)+(1:Int))∧((0:Int)+(1:Int))<((3:Nat):Int)) <|
     gd (0≤(x41_.getD (Int.toNat x43_) (ET.dft .i64))∧(x41_.getD (Int.toNat x43_) (ET.dft .i64))<v_v.length) <|
     gd ((Int.toNat (x41_.getD (Int.toNat x43_) (ET.dft .i64)))<v_v.length) <|
     gd ((Int.toNat (x41_.getD (Int.toNat x43_) (ET.dft .i64)))<v_v.length) <|
     (zai_s (⟨qIq,qIr,qIk,qIl,(⟨qIh,qIi,qIj,qIc⟩:qH9)⟩:header_reader) ((v_v.getD (Int.toNat (x41_.getD (Int.toNat x43_) (ET.dft .i64))) (ET.dft .node)).text)).bind fun r31 =>
     gd (qAe (x43_+(1:Int))) <|
     some (.inl ((x43_+(1:Int)),r31.alg,r31.kid,r31.hasAlg,r31.hasKid,r31.out.alg,r31.out.kid,r31.out.typ,r31.out.hasTyp))))
   else (
    gd (qAe (((0:Int)+(1:Int))+(1:Int))) <|
    gd (0≤(((0:Int)+(1:Int))+(1:Int))∧(((0:Int)+(1:Int))+(1:Int))<((3:Nat):Int)) <|
    gd (0≤(x41_.getD (Int.toNat x43_) (ET.dft .i64))∧(x41_.getD (Int.toNat x43_) (ET.dft .i64))<v_v.length) <|
    gd ((Int.toNat (x41_.getD (Int.toNat x43_) (ET.dft .i64)))<v_v.length) <|
    gd ((Int.toNat (x41_.getD (Int.toNat x43_) (ET.dft .i64)))<v_v.length) <|
    bif decide (fields_c4=((v_v.getD (Int.toNat (x41_.getD (Int.toNat x43_) (ET.dft .i64))) (ET.dft .node)).key)) then (
     gd (false=false→0≤(x41_.getD (Int.toNat x43_) (ET.dft .i64))∧(x41_.getD (Int.toNat x43_) (ET.dft .i64))<v_v.length) <|
     gd (false=false→(Int.toNat (x41_.getD (Int.toNat x43_) (ET.dft .i64)))<v_v.length) <|
     gd (false=false→(Int.toNat (x41_.getD (Int.toNat x43_) (ET.dft .i64)))<v_v.length) <|
     bif (!decide (((v_v.getD (Int.toNat (x41_.getD (Int.toNat x43_) (ET.dft .i64))) (ET.dft .node)).kind)=(5:Int))) then (
      some (.inr (.inl ((110:Int),(0:Int),(⟨#[]⟩:BA),(⟨#[]⟩:BA),false))))
     else (
      gd (0≤(((0:Int)+(1:Int))+(1:Int))∧(((0:Int)+(1:Int))+(1:Int))<((3:Nat):Int)) <|
      gd (0≤(x41_.getD (Int.toNat x43_) (ET.dft .i64))∧(x41_.getD (Int.toNat x43_) (ET.dft .i64))<v_v.length) <|
      gd ((Int.toNat (x41_.getD (Int.toNat x43_) (ET.dft .i64)))<v_v.length) <|
      gd ((Int.toNat (x41_.getD (Int.toNat x43_) (ET.dft .i64)))<v_v.length) <|
      (zaj_s (⟨qIq,qIr,qIk,qIl,(⟨qIh,qIi,qIj,qIc⟩:qH9)⟩:header_reader) ((v_v.getD (Int.toNat (x41_.getD (Int.toNat x43_) (ET.dft .i64))) (ET.dft .node)).text)).bind fun r32 =>
      gd (qAe (x43_+(1:Int))) <|
      some (.inl ((x43_+(1:Int)),r32.alg,r32.kid,r32.hasAlg,r32.hasKid,r32.out.alg,r32.out.kid,r32.out.typ,r32.out.hasTyp))))
    else (
     gd (qAe ((((0:Int)+(1:Int))+(1:Int))+(1:Int))) <|
     gd (true=false→0≤(x41_.getD (Int.toNat x43_) (ET.dft .i64))∧(x41_.getD (Int.toNat x43_) (ET.dft .i64))<v_v.length) <|
     gd (true=false→(Int.toNat (x41_.getD (Int.toNat x43_) (ET.dft .i64)))<v_v.length) <|
     gd (true=false→(Int.toNat (x41_.getD (Int.toNat x43_) (ET.dft .i64)))<v_v.length) <|
     some (.inr (.inl ((110:Int),(0:Int),(⟨#[]⟩:BA),(⟨#[]⟩:BA),false)))))))
 else (
  some (.inr (.inr (qIq,qIr,qIk,qIl,qIh,qIi,qIj,qIc))))
def zaf_p0 (x42_ x43_:Int) (qIq qIr:BA) (qIk qIl:Bool) (qIh:Int) (qIi qIj:BA) (qIc:Bool) (fields_c0 fields_c2 fields_c4:BA) (x41_:List Int) (v_v:List Eng.Node):Option ((Int × Int × BA × BA × Bool) ⊕ (BA × BA × Bool × Bool × Int × BA × BA × Bool)) :=
 qBg (fun x:(Int × BA × BA × Bool × Bool × Int × BA × BA × Bool)=>qB6 x42_ x.1 x.2.1 x.2.2.1 x.2.2.2.1 x.2.2.2.2.1 x.2.2.2.2.2.1 x.2.2.2.2.2.2.1 x.2.2.2.2.2.2.2.1 x.2.2.2.2.2.2.2.2 fields_c0 fields_c2 fields_c4 x41_ v_v) (x43_,qIq,qIr,qIk,qIl,qIh,qIi,qIj,qIc)
def zaf_s (text:BA):Option (qH9 × Int) :=
 (zap_s text).bind fun r28 =>
 bif (!decide (r28.2.1=(0:Int))) then (
  some ((⟨(0:Int),(⟨#[]⟩:BA),(⟨#[]⟩:BA),false⟩:qH9),r28.2.1))
 else (
  gd (0≤(0:Int)∧(0:Int)<r28.1.length) <|
  gd ((Int.toNat (0:Int))<r28.1.length) <|
  gd ((Int.toNat (0:Int))<r28.1.length) <|
  bif (!decide (((r28.1.getD (Int.toNat (0:Int)) (ET.dft .node)).kind)=(7:Int))) then (
   some ((⟨(0:Int),(⟨#[]⟩:BA),(⟨#[]⟩:BA),false⟩:qH9),(110:Int)))
  else (
   (zao_s r28.1 (0:Int)).bind fun r29 =>
   (zaf_p0 (r29.length:Int) (0:Int) (⟨#[]⟩:BA) (⟨#[]⟩:BA) false false (0:Int) (⟨#[]⟩:BA) (⟨#[]⟩:BA) false (⟨#[97,108,103]⟩:BA) (⟨#[107,105,100]⟩:BA) (⟨#[116,121,112]⟩:BA) r29 r28.1).bind fun o33=>(Sum.elim (fun (o33_0:Int × Int × BA × BA × Bool) =>
    some ((⟨o33_0.2.1,o33_0.2.2.1,o33_0.2.2.2.1,o33_0.2.2.2.2⟩:qH9),o33_0.1)) (fun (o33_1:BA × BA × Bool × Bool × Int × BA × BA × Bool) =>
    bif ((!o33_1.2.2.1) || (!o33_1.2.2.2.1)) then (
     some ((⟨(0:Int),(⟨#[]⟩:BA),(⟨#[]⟩:BA),false⟩:qH9),(110:Int)))
    else (
     (keyset_Of_s o33_1.1).bind fun r34 =>
     bif decide (r34=(0:Int)) then (
      some ((⟨(0:Int),(⟨#[]⟩:BA),(⟨#[]⟩:BA),false⟩:qH9),(111:Int)))
     else (
      some ((⟨r34,o33_1.2.1,o33_1.2.2.2.2.2.2.1,o33_1.2.2.2.2.2.2.2⟩:qH9),(0:Int)))))) o33))
def qFr:IQ :=
 (.seq
 (.reg 4 none [
  ⟨(some 3),.box 84 2 (.t 0),none⟩,
  ⟨(some 4),.mv (.v (.bool false)),none⟩])
 (.seq
 (.reg 4 (some [0,1,2,3,4,5,6,7,8]) [
  ⟨(some 5),.faddr 0 (.t 3),none⟩,
  ⟨(some 6),.load none (.t 5),none⟩,
  ⟨(some 7),.load none (.t 1),none⟩,
  ⟨(some 8),.load none (.t 2),none⟩,
  ⟨(some 9),.iaddr 6 (.t 7) (.t 8),none⟩,
  ⟨(some 10),.faddr 1 (.t 9),none⟩,
  ⟨(some 11),.load none (.t 10),none⟩,
  ⟨(some 12),.bin false .eql (.t 6) (.t 11),none⟩,
  ⟨(some 4),.mv (.t 12),none⟩])
 .ret))
theorem header_Parse_1_47_ichk:chk Tryd.prog 47 []=some (qFr.erase,[.tmp 4],13):=by kernel_rfl
def zaf_i46_i47_G:Nat→Option CQ:=tblQ []
theorem zaf_i46_i47_Gok:∀f C,zaf_i46_i47_G f=some C→qAf Tryd.prog f C:=fun f C h=>by cases h
def zaf_i46_i47:CQ:=inlQ zaf_i46_i47_G 4 13 qFr [.tmp 4]
theorem zaf_i46_i47_ok:qAf Tryd.prog 47 zaf_i46_i47:=inl_valid header_Parse_1_47_ichk (by kernel_rfl) 4 zaf_i46_i47_Gok (by kernel_rfl)
def qBc:IQ :=
 (.seq
 (.reg 4 none [
  ⟨(some 4),.mv (.v (.int .i64 0)),none⟩])
 (.seq
 (.seq
 (.reg 8 none [
  ⟨(some 6),.mv (.t 0),none⟩,
  ⟨(some 7),.len (.t 6),none⟩,
  ⟨(some 8),.mv (.v (.int .i64 0)),none⟩])
 (.block 0
  (.unroll 5
   (.seq
   (.reg 9 none [
    ⟨(some 9),.bin false .lss (.t 8) (.t 7),none⟩])
   (.seq
   (.cond (.t 9)
    .skip
    (.exit 0))
   (.seq
   (.block 1
    (.seq
    (.reg 5 none [
     ⟨(some 10),.mv (.t 8),none⟩,
     ⟨(some 5),.mv (.t 10),none⟩])
    (.seq
    (.reg 16 none [
     ⟨(some 11),.mv (.t 1),none⟩,
     ⟨(some 12),.mv (.t 0),none⟩,
     ⟨(some 13),.mv (.t 5),none⟩,
     ⟨(some 14),.iaddr 2 (.t 12) (.t 13),none⟩,
     ⟨(some 15),.load (some 2) (.t 14),none⟩,
     ⟨(some 16),.callV (.t 11) [(.t 15)],none⟩])
    (.cond (.t 16)
     (.seq
     (.reg 4 none [
      ⟨(some 17),.mv (.t 5),none⟩,
      ⟨(some 4),.mv (.t 17),none⟩])
     .ret)
     .skip))))
   (.reg 8 none [
    ⟨(some 18),.bin false .add (.t 8) (.v (.int .i64 1)),none⟩,
    ⟨(some 8),.mv (.t 18),none⟩])))))))
 (.seq
 (.reg 4 none [
  ⟨(some 4),.mv (.v (.int .i64 (-1))),none⟩])
 .ret)))
theorem qB9:chk Tryd.prog 46 []=some (qBc.erase,[.tmp 4],19):=by kernel_rfl
def zaf_i46_G:Nat→Option CQ:=tblQ [(47,zaf_i46_i47)]
theorem zaf_i46_Gok:∀f C,zaf_i46_G f=some C→qAf Tryd.prog f C:=qAj ⟨zaf_i46_i47_ok,tV⟩
def zaf_i46:CQ:=inlQ zaf_i46_G 9 19 qBc [.tmp 4]
theorem zaf_i46_ok:qAf Tryd.prog 46 zaf_i46:=inl_valid qB9 (by kernel_rfl) 9 zaf_i46_Gok (by kernel_rfl)
def zaf_G:Nat→Option CQ:=tblQ [(20,zap_w),(29,zao_w),(46,zaf_i46),(43,(toInl zah_w)),(44,(toInl zai_w)),(45,(toInl zaj_w)),(22,keyset_Of_w)]
theorem zaf_Gok:∀f C,zaf_G f=some C→qAf Tryd.prog f C:=qAj ⟨zap_ok,zao_ok,zaf_i46_ok,(toInl_valid (by kernel_rfl) zah_ok),(toInl_valid (by kernel_rfl) zai_ok),(toInl_valid (by kernel_rfl) zaj_ok),keyset_Of_ok,tV⟩
def zaf_d0:=(dQS (qAb (dSO 2 (dH 0 0)) (qAb (dSO 4 (dH 1 0)) (qAb (dSO 7 (dH 2 0)) (qAb (dSO 8 (dH 3 0)) (qAb (dSO 41 (dO 4)) (qAb (dSO 42 dZ) (qAb (dSO 43 dZ) dNil))))))) (qAb (qF9 24 zDJW1) (qAb (qF9 40 (qAb (dO 5) dNil)) (qAb zDJW3 (qAb (qF9 85 (qAb dS (qAb (dO 6) (qAb dS (qAb (dO 7) (qAb dS (qAb (dO 8) dNil))))))) (qAb (dRow .i64 3) (qAb (dRow .node 46) (qAb (dClo 43 1 (qAb (dH 2 0) dNil)) (qAb (dClo 44 1 (qAb (dH 2 0) dNil)) (qAb (dClo 45 1 (qAb (dH 2 0) dNil)) dNil))))))))))
def zaf_l0:SubQ:=mkL zaf_d0 (fun x=>zaf_p0 x.1.2.2.2.2.2.1 x.1.2.2.2.2.2.2.1 x.2.2.2.1.1 x.2.2.2.1.2.1 x.2.2.2.1.2.2.1 x.2.2.2.1.2.2.2.1 x.2.2.2.1.2.2.2.2.1 x.2.2.2.1.2.2.2.2.2.1 x.2.2.2.1.2.2.2.2.2.2.1 x.2.2.2.1.2.2.2.2.2.2.2.1 x.2.2.2.2.1.1 x.2.2.2.2.1.2.2.1 x.2.2.2.2.1.2.2.2.2.1 x.2.2.2.2.2.1 x.2.2.2.2.2.2.1) fun x r R kn kx kr=>(Sum.elim (fun (r_0:Int × Int × BA × BA × Bool)=>kr ⟨[sL 2 (.hd 0 0),sL 3 (.vI r_0.1)],[],[.cells 24 [.vI r_0.2.1,.vS r_0.2.2.1,.vS r_0.2.2.2.1,.vB r_0.2.2.2.2]]⟩) (fun (r_1:BA × BA × Bool × Bool × Int × BA × BA × Bool)=>kx 0 ⟨[sL 2 (.hd 0 0),sL 7 (.hd 1 0)],[],[.cells 24 [.vI x.2.1.1,.vS x.2.1.2.1,.vS x.2.1.2.2.1,.vB x.2.1.2.2.2.1],.cells 81 [.vS r_1.1,.vS r_1.2.1,.vB r_1.2.2.1,.vB r_1.2.2.2.1,.vI r_1.2.2.2.2.1,.vS r_1.2.2.2.2.2.1,.vS r_1.2.2.2.2.2.2.1,.vB r_1.2.2.2.2.2.2.2]]⟩)) r
def zaf_L:Nat→SubQ:=tblL [(0,zaf_l0)]
theorem zaf_sub0:qCo zaf_L zaf_G 0 44 113 0 zaf_b0:=qA1 (show zaf_L 0=zaf_l0 from by kernel_rfl) fun x R kn kx kr=>qAz (step:=fun y=>qB6 x.1.2.2.2.2.2.1 y.1 y.2.1 y.2.2.1 y.2.2.2.1 y.2.2.2.2.1 y.2.2.2.2.2.1 y.2.2.2.2.2.2.1 y.2.2.2.2.2.2.2.1 y.2.2.2.2.2.2.2.2 x.2.2.2.2.1.1 x.2.2.2.2.1.2.2.1 x.2.2.2.2.1.2.2.2.2.1 x.2.2.2.2.2.1 x.2.2.2.2.2.2.1) (enc:=fun (y:Int × BA × BA × Bool × Bool × Int × BA × BA × Bool)=>zaf_d0.e ((x.1.1,x.1.2.1,x.1.2.2.1,x.1.2.2.2.1,x.1.2.2.2.2.1,x.1.2.2.2.2.2.1,y.1,x.1.2.2.2.2.2.2.2),(x.2.1,x.2.2.1,(y.2.1,y.2.2.1,y.2.2.2.1,y.2.2.2.2.1,y.2.2.2.2.2.1,y.2.2.2.2.2.2.1,y.2.2.2.2.2.2.2.1,y.2.2.2.2.2.2.2.2,x.2.2.2.1.2.2.2.2.2.2.2.2),x.2.2.2.2))) (fun y=>by kernel_rfl) (fun y ki=>by simp only [qB6,-eq_self,qAd,qAh,obA,obS,slL,slR,qAc]; kernel_rfl) (x.1.2.2.2.2.2.2.1,x.2.2.2.1.1,x.2.2.2.1.2.1,x.2.2.2.1.2.2.1,x.2.2.2.1.2.2.2.1,x.2.2.2.1.2.2.2.2.1,x.2.2.2.1.2.2.2.2.2.1,x.2.2.2.1.2.2.2.2.2.2.1,x.2.2.2.1.2.2.2.2.2.2.2.1)
theorem zaf_subs:qAo zaf_L zaf_G 0 44 113 zaf_q:=qAl (show qAr zaf_L zaf_G 0 44 113 [(0,zaf_b0)] from ⟨zaf_sub0,tV⟩)
def zaf_da:=(qAb (dVC (dCO dS)) dNil)
def zaf_db:=(dNil:Dec Unit (List SB))
def zaf_c:CS:=mkC zaf_da zaf_db (fun x y=>zaf_s x.1) (fun x y r=>.tup [.agg [.vI r.1.alg,.vS r.1.kid,.vS r.1.typ,.vB r.1.hasTyp],.o (.vI r.2)]) fun x y r=>[]
theorem zaf_val:qAm Tryd.prog 14 zaf_c:=qAn zaf_chk 44 zaf_Gok 0 (fun x=>Nat.le_of_ble_eq_true rfl) (fun y=>rfl) zaf_subs fun x y=>by
 simp only [zaf_s,-eq_self,qAd,qAh,obA,obS,slL,slR,qAc];kernel_rfl
def zaf_w:CQ:=qDz [] zaf_c
theorem zaf_ok:qAf Tryd.prog 14 zaf_w:=qAt zaf_val
def zby_q:IQ:=(.join [(2000000,some 0,.u8,0)] [] (.seq (rg 6 (rF 2 t0 0++[oP 6 (.ext (.ptrEq false) [t5,(.v (.pointer none))])])) (.cond t6 (rg 0 ([oM 7 t0,oM 8 t0,oP 9 (.ext .toUns [t8]),oP 10 (.ext .noEsc [t9]),oP 11 (.ext (.fromUns 111 2) [t10])]++rS 12 t7 0 t11)) (.seq (rg 19 (rF 14 t0 0++[oM 18 t0,oP 19 (.ext (.ptrEq true) [t17,t18])])) (.cond t19 .bad .skip)))))
theorem zby_chk:chk Tryd.prog 112 []=some (zby_q.erase,[],20):=by kernel_rfl
def zby_s (b:qHy):Option qHy :=
 bif (!b.addr) then (
  some (⟨true,b.buf⟩:qHy))
 else (
  bif (!b.addr) then (
   none)
  else (
   some b))
def zby_G:Nat→Option CQ:=tblQ []
theorem zby_Gok:∀f C,zby_G f=some C→qAf Tryd.prog f C:=fun f C h=>by cases h
def zby_L:Nat→SubQ:=tblL []
theorem zby_subs:qAo zby_L zby_G 2 2 20 zby_q:=qAl (show qAr zby_L zby_G 2 2 20 [] from tV)
def zby_da:=(qAb (dVC (dCO (dH 0 0))) dNil)
def zDJW2:=(qF9 111 (qAb (dP 0 0) (qAb (dO 1) dNil)))
def zby_db:=(qAb zDJW2 (qAb (qCi .u8) dNil))
def zby_c:CS:=mkC zby_da zby_db (fun x y=>zby_s (⟨y.1.1,y.2.1⟩:qHy)) (fun x y r=>.tup []) fun x y r=>[.cells 111 [.opt r.addr 0 0,.own 1],.view .u8 y.2.1]
theorem zby_val:qAm Tryd.prog 112 zby_c:=qAn zby_chk 2 zby_Gok 2 (fun x=>Nat.le_of_ble_eq_true rfl) (fun y=>rfl) zby_subs fun x y=>by
 simp only [zby_s,-eq_self,qAd,qAh,obA,obS,slL,slR,qAc];kernel_rfl
def zby_w:CQ:=qCk [(0,some 0,none),(0,some 1,some (.u8,5))] (qC3 [true,false] zby_c)
theorem zby_ok:qAf Tryd.prog 112 zby_w:=qAu zby_val
def zbx_q:IQ:=(.seq (rg 5 [oP 4 (.mv (vI 0)),oP 5 (.mv (.v (.nilIface)))]) (.seq (rg 7 [oM 6 t0,oP 7 (.call 112 [t6])]) (.seq (rg 0 ([oM 8 t0]++rF 9 t0 1++[oM 13 t1,oP 14 (.ext (.appStr 5) [t12,t13])]++rS 15 t8 1 t14)) (.seq (rg 5 [oM 17 t1,oP 18 (.lenS t17),oM 4 t18,oP 5 (.mv (.v (.nilIface)))]) (.canon [(2000000,some 0,.u8,0)] [4,5] .ret)))))
theorem zbx_chk:chk Tryd.prog 90 []=some (zbx_q.erase,[.tmp 4,.tmp 5],19):=by kernel_rfl
def zbx_s (b:qHy) (s:BA):Option (qHy × Int × Unit) :=
 (zby_s b).bind fun r3 =>
 gd (b.buf.length+s.size≤140737488355328) <|
 some ((⟨r3.addr,(b.buf++(qAp s))⟩:qHy),(s.size:Int),())
def zbx_G:Nat→Option CQ:=tblQ [(112,zby_w)]
theorem zbx_Gok:∀f C,zbx_G f=some C→qAf Tryd.prog f C:=qAj ⟨zby_ok,tV⟩
def zbx_L:Nat→SubQ:=tblL []
theorem zbx_subs:qAo zbx_L zbx_G 2 6 19 zbx_q:=qAl (show qAr zbx_L zbx_G 2 6 19 [] from tV)
def zbx_da:=(qAb (dVC (dCO (dH 0 0))) (qAb (dVC (dCO dS)) dNil))
def zbx_db:=(qAb zDJW2 (qAb (dRow .u8 5) dNil))
def zbx_c:CS:=mkC zbx_da zbx_db (fun x y=>zbx_s (⟨y.1.1,y.2.1⟩:qHy) x.2.1) (fun x y r=>.tup [.o (.vI r.2.1),.o (.val (.nilIface))]) fun x y r=>[.cells 111 [.opt r.1.addr 0 0,.own 2],.dead,.row .u8 5 r.1.buf]
theorem zbx_val:qAm Tryd.prog 90 zbx_c:=qAn zbx_chk 6 zbx_Gok 2 (fun x=>Nat.le_of_ble_eq_true rfl) (fun y=>rfl) zbx_subs fun x y=>by
 simp only [zbx_s,-eq_self,qAd,qAh,obA,obS,slL,slR,qAc];kernel_rfl
def zbx_w:CQ:=qCk [(0,some 0,none),(0,some 1,some (.u8,5))] (qC3 [true,true] zbx_c)
theorem zbx_ok:qAf Tryd.prog 90 zbx_w:=qAu zbx_val
def zbw_q:IQ:=(.seq (rg 4 [oP 4 (.mv (.v (.nilIface)))]) (.seq (rg 6 [oM 5 t0,oP 6 (.call 112 [t5])]) (.seq (rg 0 ([oM 7 t0]++rF 8 t0 1++[oM 12 t1,oP 13 (.bslice 5 1 1 [.int .u8 0] [(0,t12)]),oP 14 (.append 5 1 1 [.int .u8 0] t11 t13)]++rS 15 t7 1 t14)) (.seq (rg 4 [oP 4 (.mv (.v (.nilIface)))]) (.canon [(2000000,some 0,.u8,0)] [4] .ret)))))
theorem zbw_chk:chk Tryd.prog 92 []=some (zbw_q.erase,[.tmp 4],17):=by kernel_rfl
def zbw_s (b:qHy) (c:Int):Option (qHy × Unit) :=
 (zby_s b).bind fun r3 =>
 gd (b.buf.length+([c]:List Int).length≤9223372036854775807∧(b.buf.length+([c]:List Int).length)*1≤140737488355328) <|
 some ((⟨r3.addr,(b.buf++[c])⟩:qHy),())
def zbw_G:Nat→Option CQ:=tblQ [(112,zby_w)]
theorem zbw_Gok:∀f C,zbw_G f=some C→qAf Tryd.prog f C:=qAj ⟨zby_ok,tV⟩
def zbw_L:Nat→SubQ:=tblL []
theorem zbw_subs:qAo zbw_L zbw_G 2 5 17 zbw_q:=qAl (show qAr zbw_L zbw_G 2 5 17 [] from tV)
def zDJW7:=(qAb (dVC (dCO (dI .u8))) dNil)
def zbw_da:=(qAb (dVC (dCO (dH 0 0))) zDJW7)
def zbw_db:=(qAb zDJW2 (qAb (dRow .u8 5) dNil))
def zbw_c:CS:=mkC zbw_da zbw_db (fun x y=>zbw_s (⟨y.1.1,y.2.1⟩:qHy) x.2.1) (fun x y r=>.c (.o (.val (.nilIface)))) fun x y r=>[.cells 111 [.opt r.1.addr 0 0,.own 2],.dead,.row .u8 5 r.1.buf]
theorem zbw_val:qAm Tryd.prog 92 zbw_c:=qAn zbw_chk 5 zbw_Gok 2 (fun x=>Nat.le_of_ble_eq_true rfl) (fun y=>rfl) zbw_subs fun x y=>by
 simp only [zbw_s,-eq_self,qAd,qAh,obA,obS,slL,slR,qAc];kernel_rfl
def zbw_w:CQ:=qCk [(0,some 0,none),(0,some 1,some (.u8,5))] (qC3 [true,true] zbw_c)
theorem zbw_ok:qAf Tryd.prog 92 zbw_w:=qAu zbw_val
def zam_q:IQ:=(.seq (rg 4 [oP 4 (.mv (vI 0))]) (.seq (rg 4 [oM 5 t0,oM 6 t1,oP 7 (.ext .idxByte [t5,t6]),oM 4 t7]) (.cn [4] .ret)))
theorem zam_chk:chk Tryd.prog 125 []=some (zam_q.erase,[.tmp 4],8):=by kernel_rfl
def zam_s (s:BA) (c:Int):Option Int :=
 some (Lib.indexByte s.data.toList (Int.toNat c).toUInt8)
def zam_G:Nat→Option CQ:=tblQ []
theorem zam_Gok:∀f C,zam_G f=some C→qAf Tryd.prog f C:=fun f C h=>by cases h
def zam_L:Nat→SubQ:=tblL []
theorem zam_subs:qAo zam_L zam_G 0 5 8 zam_q:=qAl (show qAr zam_L zam_G 0 5 8 [] from tV)
def zam_da:=(qAb (dVC (dCO dS)) zDJW7)
def zam_db:=(dNil:Dec Unit (List SB))
def zam_c:CS:=mkC zam_da zam_db (fun x y=>zam_s x.1 x.2.1) (fun x y r=>.c (.o (.vI r))) fun x y r=>[]
theorem zam_val:qAm Tryd.prog 125 zam_c:=qAn zam_chk 5 zam_Gok 0 (fun x=>Nat.le_of_ble_eq_true rfl) (fun y=>rfl) zam_subs fun x y=>by
 simp only [zam_s,-eq_self,qAd,qAh,obA,obS,slL,slR,qAc];kernel_rfl
def zam_w:CQ:=qDz [] zam_c
theorem zam_ok:qAf Tryd.prog 125 zam_w:=qAt zam_val
def zca_q:IQ:=(.seq (rg 4 [oP 4 (.mv (vI 0))]) (.seq (rg 4 [oM 5 t0,oM 6 t1,oP 7 (.call 125 [t5,t6]),oM 4 t7]) (.cn [4] .ret)))
theorem zca_chk:chk Tryd.prog 113 []=some (zca_q.erase,[.tmp 4],8):=by kernel_rfl
def zca_s (s:BA) (c:Int):Option Int :=
 (zam_s s c).bind fun r1 =>
 some r1
def zca_G:Nat→Option CQ:=tblQ [(125,zam_w)]
theorem zca_Gok:∀f C,zca_G f=some C→qAf Tryd.prog f C:=qAj ⟨zam_ok,tV⟩
def zca_L:Nat→SubQ:=tblL []
theorem zca_subs:qAo zca_L zca_G 0 5 8 zca_q:=qAl (show qAr zca_L zca_G 0 5 8 [] from tV)
def zca_da:=(qAb (dVC (dCO dS)) zDJW7)
def zca_db:=(dNil:Dec Unit (List SB))
def zca_c:CS:=mkC zca_da zca_db (fun x y=>zca_s x.1 x.2.1) (fun x y r=>.c (.o (.vI r))) fun x y r=>[]
theorem zca_val:qAm Tryd.prog 113 zca_c:=qAn zca_chk 5 zca_Gok 0 (fun x=>Nat.le_of_ble_eq_true rfl) (fun y=>rfl) zca_subs fun x y=>by
 simp only [zca_s,-eq_self,qAd,qAh,obA,obS,slL,slR,qAc];kernel_rfl
def zca_w:CQ:=qDz [] zca_c
theorem zca_ok:qAf Tryd.prog 113 zca_w:=qAt zca_val
def zau_b0:IQ:=(.loop [0,1,4,11,12] (.seq (rg 13 [oP 13 (.bi .lss t12 t11)]) (.seq (.cond t13 .skip (.cn [0,1,4] (.exit 0))) (.seq (.block 1 (.seq (rg 5 [oM 14 t12,oM 5 t14]) (.seq (rg 6 [oM 15 t1,oM 16 t5,oP 17 (.index t15 t16),oM 6 t17]) (.seq (.seq (rg 27 [oM 18 t6,oP 19 (.bi .geq t18 (vC 32)),oM 20 t19,oF 21 (.mv t6) 20,oF 22 (.bi .neq t21 (vC 34)) 20,oP 23 (.pick t20 t22 vF),oM 24 t23,oF 25 (.mv t6) 24,oF 26 (.bi .neq t25 (vC 92)) 24,oP 27 (.pick t24 t26 vF)]) (.cond t27 (.exit 1) .skip)) (.seq (rg 33 [oM 28 t0,oM 29 t1,oM 30 t4,oM 31 t5,oP 32 (.sub none t29 (some t30) (some t31)),oP 33 (.call 90 [t28,t32])]) (.seq (rg 4 [oM 34 t5,oP 35 (.bi .add t34 (vI 1)),oM 4 t35]) (.seq (rg 7 [oM 36 t6,oP 37 (.call 113 [(.v (.string ⟨#[8,12,10,13,9,34,92]⟩)),t36]),oM 7 t37]) (.seq (rg 39 [oM 38 t7,oP 39 (.bi .geq t38 (vI 0))]) (.cond t39 (rg 46 [oM 40 t0,oM 41 t7,oM 42 t7,oP 43 (.bi .add t42 (vI 1)),oP 44 (.sub none (.v (.string ⟨#[98,102,110,114,116,34,92]⟩)) (some t41) (some t43)),oP 45 (.bi .add (.v (.string ⟨#[92]⟩)) t44),oP 46 (.call 90 [t40,t45])]) (.reg 62 (some [0,1,2,3,4,5,6,7,8,9,10,11,12,13,14,15]) [oM 47 t0,oM 48 t6,oP 49 (.bi .shr t48 (.v (.int .u64 4))),oM 50 t6,oP 51 (.bi .shr t50 (.v (.int .u64 4))),oP 52 (.bi .add t51 (vC 1)),oP 53 (.sub none (.v (.string ⟨#[48,49,50,51,52,53,54,55,56,57,97,98,99,100,101,102]⟩)) (some t49) (some t52)),oP 54 (.bi .add (.v (.string ⟨#[92,117,48,48]⟩)) t53),oM 55 t6,oP 56 (.bi .and t55 (vC 15)),oM 57 t6,oP 58 (.bi .and t57 (vC 15)),oP 59 (.bi .add t58 (vC 1)),oP 60 (.sub none (.v (.string ⟨#[48,49,50,51,52,53,54,55,56,57,97,98,99,100,101,102]⟩)) (some t56) (some t59)),oP 61 (.bi .add t54 t60),oP 62 (.callL 90 [t47,t61])])))))))))) (rg 12 [oP 63 (.bi .add t12 (vI 1)),oM 12 t63])))))
def zau_q:IQ:=(.join [(2000000,some 0,.u8,0)] [] (.seq (rg 9 [oM 8 t0,oP 9 (.call 92 [t8,(vC 34)])]) (.seq (rg 4 [oP 4 (.mv (vI 0))]) (.seq (.seq (rg 12 [oM 10 t1,oP 11 (.lenS t10),oP 12 (.mv (vI 0))]) (.block 0 (.cn [0,1,4,11,12] (.sub 0 zau_b0)))) (rg 69 [oM 64 t0,oM 65 t1,oM 66 t4,oP 67 (.sub none t65 (some t66) none),oP 68 (.bi .add t67 (.v (.string ⟨#[34]⟩))),oP 69 (.call 90 [t64,t68])])))))
theorem zau_chk:chk Tryd.prog 91 [62]=some (zau_q.erase,[],70):=by kernel_rfl
def qEw (s:BA) (from_ x11_ x12_:Int) (b_addr:Bool) (b_buf:List Int):Option ((Int × Int × Bool × (List Int)) ⊕ (Int × Bool × (List Int))) :=
 bif decide (x12_<x11_) then (
  gd (0≤x12_∧x12_<s.size) <|
  bif (((decide ((32:Int)≤(bAt s x12_))) && (!decide ((bAt s x12_)=(34:Int)))) && (!decide ((bAt s x12_)=(92:Int)))) then (
   gd (qAe (x12_+(1:Int))) <|
   some (.inl (from_,(x12_+(1:Int)),b_addr,b_buf)))
  else (
   gd (0≤from_∧from_≤x12_∧x12_≤s.size) <|
   (zbx_s (⟨b_addr,b_buf⟩:qHy) (s.extract (Int.toNat from_) (Int.toNat x12_))).bind fun r22 =>
   gd (qAe (x12_+(1:Int))) <|
   (zca_s (⟨#[8,12,10,13,9,34,92]⟩:BA) (bAt s x12_)).bind fun r23 =>
   bif decide ((0:Int)≤r23) then (
    gd (qAe (r23+(1:Int))) <|
    gd (0≤r23∧r23≤(r23+(1:Int))∧(r23+(1:Int))≤(⟨#[98,102,110,114,116,34,92]⟩:BA).size) <|
    gd ((⟨#[92]⟩:BA).size+((⟨#[98,102,110,114,116,34,92]⟩:BA).extract (Int.toNat r23) (Int.toNat (r23+(1:Int)))).size≤9223372036854775807) <|
    (zbx_s r22.1 ((⟨#[92]⟩:BA)++((⟨#[98,102,110,114,116,34,92]⟩:BA).extract (Int.toNat r23) (Int.toNat (r23+(1:Int)))))).bind fun r24 =>
    gd (qAe (x12_+(1:Int))) <|
    some (.inl ((x12_+(1:Int)),(x12_+(1:Int)),r24.1.addr,r24.1.buf)))
   else (
    gd (0≤(4:Int)) <|
    gd (0≤(4:Int)) <|
    gd (0≤((bAt s x12_) / 16)∧((bAt s x12_) / 16)≤((((bAt s x12_) / 16)+(1:Int)) % 256)∧((((bAt s x12_) / 16)+(1:Int)) % 256)≤(⟨#[48,49,50,51,52,53,54,55,56,57,97,98,99,100,101,102]⟩:BA).size) <|
    gd ((⟨#[92,117,48,48]⟩:BA).size+((⟨#[48,49,50,51,52,53,54,55,56,57,97,98,99,100,101,102]⟩:BA).extract (Int.toNat ((bAt s x12_) / 16)) (Int.toNat ((((bAt s x12_) / 16)+(1:Int)) % 256))).size≤9223372036854775807) <|
    gd (0≤(qBh .u8 (bAt s x12_) (15:Int))∧(qBh .u8 (bAt s x12_) (15:Int))≤(((qBh .u8 (bAt s x12_) (15:Int))+(1:Int)) % 256)∧(((qBh .u8 (bAt s x12_) (15:Int))+(1:Int)) % 256)≤(⟨#[48,49,50,51,52,53,54,55,56,57,97,98,99,100,101,102]⟩:BA).size) <|
    gd (((⟨#[92,117,48,48]⟩:BA)++((⟨#[48,49,50,51,52,53,54,55,56,57,97,98,99,100,101,102]⟩:BA).extract (Int.toNat ((bAt s x12_) / 16)) (Int.toNat ((((bAt s x12_) / 16)+(1:Int)) % 256)))).size+((⟨#[48,49,50,51,52,53,54,55,56,57,97,98,99,100,101,102]⟩:BA).extract (Int.toNat (qBh .u8 (bAt s x12_) (15:Int))) (Int.toNat (((qBh .u8 (bAt s x12_) (15:Int))+(1:Int)) % 256))).size≤9223372036854775807) <|
    (zbx_s r22.1 (((⟨#[92,117,48,48]⟩:BA)++((⟨#[48,49,50,51,52,53,54,55,56,57,97,98,99,100,101,102]⟩:BA).extract (Int.toNat ((bAt s x12_) / 16)) (Int.toNat ((((bAt s x12_) / 16)+(1:Int)) % 256))))++((⟨#[48,49,50,51,52,53,54,55,56,57,97,98,99,100,101,102]⟩:BA).extract (Int.toNat (qBh .u8 (bAt s x12_) (15:Int))) (Int.toNat (((qBh .u8 (bAt s x12_) (15:Int))+(1:Int)) % 256))))).bind fun r25 =>
    gd (qAe (x12_+(1:Int))) <|
    some (.inl ((x12_+(1:Int)),(x12_+(1:Int)),r25.1.addr,r25.1.buf)))))
 else (
  some (.inr (from_,b_addr,b_buf)))
def zau_p0 (s:BA) (from_ x11_ x12_:Int) (b_addr:Bool) (b_buf:List Int):Option (Int × Bool × (List Int)) :=
 qBg (fun x:(Int × Int × Bool × (List Int))=>qEw s x.1 x11_ x.2.1 x.2.2.1 x.2.2.2) (from_,x12_,b_addr,b_buf)
def zau_s (b:qHy) (s:BA):Option qHy :=
 (zbw_s b (34:Int)).bind fun r21 =>
 (zau_p0 s (0:Int) (s.size:Int) (0:Int) r21.1.addr r21.1.buf).bind fun o26 =>
 gd (0≤o26.1∧o26.1≤(s.size:Int)∧(s.size:Int)≤s.size) <|
 gd ((s.extract (Int.toNat o26.1) s.size).size+(⟨#[34]⟩:BA).size≤9223372036854775807) <|
 (zbx_s (⟨o26.2.1,o26.2.2⟩:qHy) ((s.extract (Int.toNat o26.1) s.size)++(⟨#[34]⟩:BA))).bind fun r27 =>
 some r27.1
def zau_G:Nat→Option CQ:=tblQ [(92,zbw_w),(90,zbx_w),(113,zca_w)]
theorem zau_Gok:∀f C,zau_G f=some C→qAf Tryd.prog f C:=qAj ⟨zbw_ok,zbx_ok,zca_ok,tV⟩
def zDJW6:=(qF9 111 (qAb (dP 0 0) (qAb (dO 2) dNil)))
def zau_d0:=(dQS (qAb (dSO 0 (dH 0 0)) (qAb (dSO 1 dS) (qAb (dSO 4 dZ) (qAb (dSO 11 dZ) (qAb (dSO 12 dZ) dNil))))) (qAb zDJW6 (qAb dDead (qAb (dRow .u8 5) dNil))))
def zau_l0:SubQ:=mkL zau_d0 (fun x=>zau_p0 x.1.2.1 x.1.2.2.1 x.1.2.2.2.1 x.1.2.2.2.2.1 x.2.1.1 x.2.2.2.1) fun x r R kn kx kr=>kx 0 ⟨[sL 0 (.hd 0 0),sL 1 (.vS x.1.2.1),sL 4 (.vI r.1)],[],[.cells 111 [.opt r.2.1 0 0,.own 2],.dead,.row .u8 5 r.2.2]⟩
def zau_L:Nat→SubQ:=tblL [(0,zau_l0)]
theorem zau_sub0:qCo zau_L zau_G 2 13 70 0 zau_b0:=qA1 (show zau_L 0=zau_l0 from by kernel_rfl) fun x R kn kx kr=>qAz (step:=fun y=>qEw x.1.2.1 y.1 x.1.2.2.2.1 y.2.1 y.2.2.1 y.2.2.2) (enc:=fun (y:Int × Int × Bool × (List Int))=>zau_d0.e ((x.1.1,x.1.2.1,y.1,x.1.2.2.2.1,y.2.1,x.1.2.2.2.2.2),((y.2.2.1,x.2.1.2),x.2.2.1,y.2.2.2,x.2.2.2.2))) (fun y=>by kernel_rfl) (fun y ki=>by simp only [qEw,-eq_self,qAd,qAh,obA,obS,slL,slR,qAc]; kernel_rfl) (x.1.2.2.1,x.1.2.2.2.2.1,x.2.1.1,x.2.2.2.1)
theorem zau_subs:qAo zau_L zau_G 2 13 70 zau_q:=qAl (show qAr zau_L zau_G 2 13 70 [(0,zau_b0)] from ⟨zau_sub0,tV⟩)
def zau_da:=(qAb (dVC (dCO (dH 0 0))) (qAb (dVC (dCO dS)) dNil))
def zau_db:=(qAb zDJW2 (qAb (dRow .u8 5) dNil))
def zau_c:CS:=mkC zau_da zau_db (fun x y=>zau_s (⟨y.1.1,y.2.1⟩:qHy) x.2.1) (fun x y r=>.tup []) fun x y r=>[.cells 111 [.opt r.addr 0 0,.own 2],.dead,.row .u8 5 r.buf]
theorem zau_val:qAm Tryd.prog 91 zau_c:=qAn zau_chk 13 zau_Gok 2 (fun x=>Nat.le_of_ble_eq_true rfl) (fun y=>rfl) zau_subs fun x y=>by
 simp only [zau_s,-eq_self,qAd,qAh,obA,obS,slL,slR,qAc];kernel_rfl
def zau_w:CQ:=qCk [(0,some 0,none),(0,some 1,some (.u8,5))] (qC3 [true,true] zau_c)
theorem zau_ok:qAf Tryd.prog 91 zau_w:=qAu zau_val
def zbp_da:=(qAb (dVC (dCO (dH 0 0))) (qAb (dVC (dCO (dO 1))) (qAb (dVC (dCO dZ)) dNil)))
def zbp_db:=(qAb zDJW6 (qAb (qCi .node) (qAb (dRow .u8 5) dNil)))
def zbp_cs (self:qHy→(List Eng.Node)→Int→Option (qHy × Int)):CS:=mkC zbp_da zbp_db (fun x y=>self (⟨y.1.1,y.2.2.1⟩:qHy) y.2.1 x.2.2.1) (fun x y r=>.c (.o (.vI r.2))) fun x y r=>[.cells 111 [.opt r.1.addr 0 0,.own 3],.view .node y.2.1,.dead,.row .u8 5 r.1.buf]
def zbp_ws (self:qHy→(List Eng.Node)→Int→Option (qHy × Int)):CQ:=qCk [(0,some 0,none),(0,some 1,some (.u8,5)),(1,none,some (.node,46))] (qC3 [true,false,true] (zbp_cs self))
def zbp_b2:IQ:=(.join [] [0,1,2,7,8,26,27] (.seq (.seq (rg 36 [oP 34 (.faddr 0 t7),oP 35 (.load none t34),oP 36 (.bi .eql t35 (vI 7))]) (.cond t36 (.seq (rg 43 [oM 37 t0,oM 38 t1,oM 39 t2,oP 40 (.iaddr 6 t38 t39),oP 41 (.faddr 1 t40),oP 42 (.load none t41),oP 43 (.call 91 [t37,t42])]) (rg 45 [oM 44 t0,oP 45 (.call 92 [t44,(vC 58)])])) .skip)) (rg 2 [oM 46 t0,oM 47 t1,oM 48 t2,oP 49 (.call 66 [t46,t47,t48]),oM 2 t49])))
def zbp_b1:IQ:=(.loop [0,1,2,7,8,26,27] (.seq (rg 28 [oP 28 (.bi .lss t27 t26)]) (.seq (.cond t28 .skip (.cn [0,2,8] (.exit 1))) (.seq (.block 2 (.seq (rg 9 [oM 29 t27,oM 9 t29]) (.seq (.seq (rg 31 [oM 30 t9,oP 31 (.bi .gtr t30 (vI 0))]) (.cond t31 (rg 33 [oM 32 t0,oP 33 (.call 92 [t32,(vC 44)])]) .skip)) (.cn [0,1,2,7,8,26,27] (.sub 2 zbp_b2))))) (rg 27 [oP 50 (.bi .add t27 (vI 1)),oM 27 t50])))))
def zbp_b0:IQ:=(.join [] [0,2] (.seq (rg 24 [oM 21 t0,oM 22 t8,oP 23 (.index t22 (vI 0)),oP 24 (.call 92 [t21,t23])]) (.seq (.seq (rg 27 [oP 25 (.faddr 5 t7),oP 26 (.load none t25),oP 27 (.mv (vI 0))]) (.block 1 (.cn [0,1,2,7,8,26,27] (.sub 1 zbp_b1)))) (rg 54 [oM 51 t0,oM 52 t8,oP 53 (.index t52 (vI 1)),oP 54 (.call 92 [t51,t53])]))))
def zbp_q:IQ:=(.seq (rg 6 [oP 6 (.mv (vI 0))]) (.seq (rg 0 [oM 10 t1,oM 11 t2,oP 12 (.iaddr 6 t10 t11),oP 13 (.load (some 6) t12),oP 7 (.alloc 46 [.int .i64 0,.string ⟨#[]⟩,.string ⟨#[]⟩,.bool false,.int .i64 0,.int .i64 0]),oN (.store 6 t7 t13)]) (.seq (rg 2 [oM 14 t2,oP 15 (.bi .add t14 (vI 1)),oM 2 t15]) (.seq (.seq (rg 17 [oP 16 (.faddr 0 t7),oP 17 (.load none t16)]) (.block 0 (.seq (rg 55 [oP 56 (.bi .eql t17 (vI 1)),oM 55 t56]) (.cond t55 (rg 58 [oM 57 t0,oP 58 (.call 90 [t57,(.v (.string ⟨#[110,117,108,108]⟩))])]) (.seq (rg 59 [oP 60 (.bi .eql t17 (vI 2)),oM 59 t60]) (.cond t59 (rg 62 [oM 61 t0,oP 62 (.call 90 [t61,(.v (.string ⟨#[102,97,108,115,101]⟩))])]) (.seq (rg 63 [oP 64 (.bi .eql t17 (vI 3)),oM 63 t64]) (.cond t63 (rg 66 [oM 65 t0,oP 66 (.call 90 [t65,(.v (.string ⟨#[116,114,117,101]⟩))])]) (.seq (rg 67 [oP 68 (.bi .eql t17 (vI 4)),oM 67 t68]) (.cond t67 (rg 72 [oM 69 t0,oP 70 (.faddr 2 t7),oP 71 (.load none t70),oP 72 (.call 90 [t69,t71])]) (.seq (rg 73 [oP 74 (.bi .eql t17 (vI 5)),oM 73 t74]) (.cond t73 (rg 78 [oM 75 t0,oP 76 (.faddr 2 t7),oP 77 (.load none t76),oP 78 (.call 91 [t75,t77])]) (.seq (rg 8 [oP 8 (.mv (.v (.string ⟨#[91,93]⟩)))]) (.seq (.seq (rg 20 [oP 18 (.faddr 0 t7),oP 19 (.load none t18),oP 20 (.bi .eql t19 (vI 7))]) (.cond t20 (rg 8 [oP 8 (.mv (.v (.string ⟨#[123,125]⟩)))]) .skip)) (.cn [0,1,2,7,8] (.sub 0 zbp_b0)))))))))))))))) (.seq (rg 6 [oM 79 t2,oM 6 t79]) (.canon [(2000000,some 0,.u8,0)] [6] .ret))))))
theorem zbp_chk:chk Tryd.prog 66 []=some (zbp_q.erase,[.tmp 6],80):=by kernel_rfl
def zbp_p2 (self:qHy→(List Eng.Node)→Int→Option (qHy × Int)) (at_:Int) (b_addr:Bool) (v:List Eng.Node) (qIb:Int) (b_buf:List Int):Option (Int × Bool × (List Int)) :=
 bif decide (qIb=(7:Int)) then (
  gd (0≤at_∧at_<v.length) <|
  gd ((Int.toNat at_)<v.length) <|
  gd ((Int.toNat at_)<v.length) <|
  (zau_s (⟨b_addr,b_buf⟩:qHy) ((v.getD (Int.toNat at_) (ET.dft .node)).key)).bind fun r57 =>
  (zbw_s r57 (58:Int)).bind fun r58 =>
  (self r58.1 v at_).bind fun r59 =>
  some (r59.2,r59.1.addr,r59.1.buf))
 else (
  (self (⟨b_addr,b_buf⟩:qHy) v at_).bind fun r60 =>
  some (r60.2,r60.1.addr,r60.1.buf))
def qE2 (self:qHy→(List Eng.Node)→Int→Option (qHy × Int)) (at_ x26_ x27_:Int) (b_addr:Bool) (v:List Eng.Node) (qIb:Int) (b_buf:List Int):Option ((Int × Int × Bool × (List Int)) ⊕ (Int × Bool × (List Int))) :=
 bif decide (x27_<x26_) then (
  bif decide ((0:Int)<x27_) then (
   (zbw_s (⟨b_addr,b_buf⟩:qHy) (44:Int)).bind fun r56 =>
   (zbp_p2 self at_ r56.1.addr v qIb r56.1.buf).bind fun o61 =>
   gd (qAe (x27_+(1:Int))) <|
   some (.inl (o61.1,(x27_+(1:Int)),o61.2.1,o61.2.2)))
  else (
   (zbp_p2 self at_ b_addr v qIb b_buf).bind fun o62 =>
   gd (qAe (x27_+(1:Int))) <|
   some (.inl (o62.1,(x27_+(1:Int)),o62.2.1,o62.2.2))))
 else (
  some (.inr (at_,b_addr,b_buf)))
def zbp_p1 (self:qHy→(List Eng.Node)→Int→Option (qHy × Int)) (at_ x26_ x27_:Int) (b_addr:Bool) (v:List Eng.Node) (qIb:Int) (b_buf:List Int):Option (Int × Bool × (List Int)) :=
 qBg (fun x:(Int × Int × Bool × (List Int))=>qE2 self x.1 x26_ x.2.1 x.2.2.1 v qIb x.2.2.2) (at_,x27_,b_addr,b_buf)
def zbp_p0 (self:qHy→(List Eng.Node)→Int→Option (qHy × Int)) (at_:Int) (signs:BA) (b_addr:Bool) (v:List Eng.Node) (b_buf:List Int) (qIb qIe:Int):Option (Int × Bool × (List Int)) :=
 gd (0≤(0:Int)∧(0:Int)<signs.size) <|
 (zbw_s (⟨b_addr,b_buf⟩:qHy) (bAt signs (0:Int))).bind fun r55 =>
 (zbp_p1 self at_ qIe (0:Int) r55.1.addr v qIb r55.1.buf).bind fun o63 =>
 gd (0≤(1:Int)∧(1:Int)<signs.size) <|
 (zbw_s (⟨o63.2.1,o63.2.2⟩:qHy) (bAt signs (1:Int))).bind fun r64 =>
 some (o63.1,r64.1.addr,r64.1.buf)
def zbp_t (self:qHy→(List Eng.Node)→Int→Option (qHy × Int)) (b:qHy) (v:(List Eng.Node)) (at_:Int):Option (qHy × Int) :=
 gd (0≤at_∧at_<v.length) <|
 gd ((Int.toNat at_)<v.length) <|
 gd (qAe (at_+(1:Int))) <|
 bif decide (((v.getD (Int.toNat at_) (ET.dft .node)).kind)=(1:Int)) then (
  (zbx_s b (⟨#[110,117,108,108]⟩:BA)).bind fun r50 =>
  some (r50.1,(at_+(1:Int))))
 else (
  bif decide (((v.getD (Int.toNat at_) (ET.dft .node)).kind)=(2:Int)) then (
   (zbx_s b (⟨#[102,97,108,115,101]⟩:BA)).bind fun r51 =>
   some (r51.1,(at_+(1:Int))))
  else (
   bif decide (((v.getD (Int.toNat at_) (ET.dft .node)).kind)=(3:Int)) then (
    (zbx_s b (⟨#[116,114,117,101]⟩:BA)).bind fun r52 =>
    some (r52.1,(at_+(1:Int))))
   else (
    bif decide (((v.getD (Int.toNat at_) (ET.dft .node)).kind)=(4:Int)) then (
     (zbx_s b ((v.getD (Int.toNat at_) (ET.dft .node)).text)).bind fun r53 =>
     some (r53.1,(at_+(1:Int))))
    else (
     bif decide (((v.getD (Int.toNat at_) (ET.dft .node)).kind)=(5:Int)) then (
      (zau_s b ((v.getD (Int.toNat at_) (ET.dft .node)).text)).bind fun r54 =>
      some (r54,(at_+(1:Int))))
     else (
      bif decide (((v.getD (Int.toNat at_) (ET.dft .node)).kind)=(7:Int)) then (
       (zbp_p0 self (at_+(1:Int)) (⟨#[123,125]⟩:BA) b.addr v b.buf ((v.getD (Int.toNat at_) (ET.dft .node)).kind) ((v.getD (Int.toNat at_) (ET.dft .node)).kids)).bind fun o65 =>
       some ((⟨o65.2.1,o65.2.2⟩:qHy),o65.1))
      else (
       (zbp_p0 self (at_+(1:Int)) (⟨#[91,93]⟩:BA) b.addr v b.buf ((v.getD (Int.toNat at_) (ET.dft .node)).kind) ((v.getD (Int.toNat at_) (ET.dft .node)).kids)).bind fun o66 =>
       some ((⟨o66.2.1,o66.2.2⟩:qHy),o66.1)))))))
def zbp_G (self:qHy→(List Eng.Node)→Int→Option (qHy × Int)):Nat→Option CQ:=tblQ [(90,zbx_w),(91,zau_w),(92,zbw_w),(66,zbp_ws self)]
theorem zbp_Gok (self:qHy→(List Eng.Node)→Int→Option (qHy × Int)) (hself:qAf Tryd.prog 66 (zbp_ws self)):∀f C,(zbp_G self) f=some C→qAf Tryd.prog f C:=qAj ⟨zbx_ok,zau_ok,zbw_ok,hself,tV⟩
def zDJW5:=(qF9 46 (qAb dZ (qAb dS (qAb dS (qAb dB (qAb dZ (qAb dZ dNil)))))))
def zbp_d2:=(dQS (qAb (dSO 0 (dH 0 0)) (qAb (dSO 1 (dO 1)) (qAb (dSO 2 dZ) (qAb (dSO 7 (dH 3 0)) (qAb (dSO 8 dS) (qAb (dSO 26 dZ) (qAb (dSO 27 dZ) dNil))))))) (qAb (qF9 111 (qAb (dP 0 0) (qAb (dO 4) dNil))) (qAb (qCi .node) (qAb dDead (qAb zDJW5 (qAb (dRow .u8 5) dNil))))))
def zbp_l2 (self:qHy→(List Eng.Node)→Int→Option (qHy × Int)):SubQ:=mkL zbp_d2 (fun x=>zbp_p2 self x.1.2.2.1 x.2.1.1 x.2.2.1 x.2.2.2.2.1.1 x.2.2.2.2.2.1) fun x r R kn kx kr=>kn ⟨[sL 0 (.hd 0 0),sL 1 (.own 1),sL 2 (.vI r.1),sL 7 (.hd 3 0),sL 8 (.vS x.1.2.2.2.2.1),sL 26 (.vI x.1.2.2.2.2.2.1),sL 27 (.vI x.1.2.2.2.2.2.2.1)],[],[.cells 111 [.opt r.2.1 0 0,.own 4],.view .node x.2.2.1,.dead,.cells 46 [.vI x.2.2.2.2.1.1,.vS x.2.2.2.2.1.2.1,.vS x.2.2.2.2.1.2.2.1,.vB x.2.2.2.2.1.2.2.2.1,.vI x.2.2.2.2.1.2.2.2.2.1,.vI x.2.2.2.2.1.2.2.2.2.2.1],.row .u8 5 r.2.2]⟩
def zbp_d1:=(dQS (qAb (dSO 0 (dH 0 0)) (qAb (dSO 1 (dO 1)) (qAb (dSO 2 dZ) (qAb (dSO 7 (dH 3 0)) (qAb (dSO 8 dS) (qAb (dSO 26 dZ) (qAb (dSO 27 dZ) dNil))))))) (qAb (qF9 111 (qAb (dP 0 0) (qAb (dO 4) dNil))) (qAb (qCi .node) (qAb dDead (qAb zDJW5 (qAb (dRow .u8 5) dNil))))))
def zbp_l1 (self:qHy→(List Eng.Node)→Int→Option (qHy × Int)):SubQ:=mkL zbp_d1 (fun x=>zbp_p1 self x.1.2.2.1 x.1.2.2.2.2.2.1 x.1.2.2.2.2.2.2.1 x.2.1.1 x.2.2.1 x.2.2.2.2.1.1 x.2.2.2.2.2.1) fun x r R kn kx kr=>kx 1 ⟨[sL 0 (.hd 0 0),sL 2 (.vI r.1),sL 8 (.vS x.1.2.2.2.2.1)],[],[.cells 111 [.opt r.2.1 0 0,.own 3],.view .node x.2.2.1,.dead,.row .u8 5 r.2.2]⟩
def zbp_d0:=(dQS (qAb (dSO 0 (dH 0 0)) (qAb (dSO 1 (dO 1)) (qAb (dSO 2 dZ) (qAb (dSO 7 (dH 3 0)) (qAb (dSO 8 dS) dNil))))) (qAb zDJW6 (qAb (qCi .node) (qAb (dRow .u8 5) (qAb zDJW5 dNil)))))
def zbp_l0 (self:qHy→(List Eng.Node)→Int→Option (qHy × Int)):SubQ:=mkL zbp_d0 (fun x=>zbp_p0 self x.1.2.2.1 x.1.2.2.2.2.1 x.2.1.1 x.2.2.1 x.2.2.2.1 x.2.2.2.2.1.1 x.2.2.2.2.1.2.2.2.2.2.1) fun x r R kn kx kr=>kn ⟨[sL 0 (.hd 0 0),sL 2 (.vI r.1)],[],[.cells 111 [.opt r.2.1 0 0,.own 3],.view .node x.2.2.1,.dead,.row .u8 5 r.2.2]⟩
def zbp_L (self:qHy→(List Eng.Node)→Int→Option (qHy × Int)):Nat→SubQ:=tblL [(2,zbp_l2 self),(1,zbp_l1 self),(0,zbp_l0 self)]
theorem zbp_sub2 (self:qHy→(List Eng.Node)→Int→Option (qHy × Int)):qCo (zbp_L self) (zbp_G self) 3 28 80 2 zbp_b2:=qA1 (show (zbp_L self) 2=(zbp_l2 self) from by kernel_rfl) fun x R kn kx kr=>by
 simp only [zbp_p2,-eq_self,qAd,qAh,obA,obS,slL,slR,qAc];kernel_rfl
theorem zbp_sub1 (self:qHy→(List Eng.Node)→Int→Option (qHy × Int)):qCo (zbp_L self) (zbp_G self) 3 28 80 1 zbp_b1:=qA1 (show (zbp_L self) 1=(zbp_l1 self) from by kernel_rfl) fun x R kn kx kr=>qAz (step:=fun y=>qE2 self y.1 x.1.2.2.2.2.2.1 y.2.1 y.2.2.1 x.2.2.1 x.2.2.2.2.1.1 y.2.2.2) (enc:=fun (y:Int × Int × Bool × (List Int))=>zbp_d1.e ((x.1.1,x.1.2.1,y.1,x.1.2.2.2.1,x.1.2.2.2.2.1,x.1.2.2.2.2.2.1,y.2.1,x.1.2.2.2.2.2.2.2),((y.2.2.1,x.2.1.2),x.2.2.1,x.2.2.2.1,x.2.2.2.2.1,y.2.2.2,x.2.2.2.2.2.2))) (fun y=>by kernel_rfl) (fun y ki=>by simp only [qE2,-eq_self,qAd,qAh,obA,obS,slL,slR,qAc]; kernel_rfl) (x.1.2.2.1,x.1.2.2.2.2.2.2.1,x.2.1.1,x.2.2.2.2.2.1)
theorem zbp_sub0 (self:qHy→(List Eng.Node)→Int→Option (qHy × Int)):qCo (zbp_L self) (zbp_G self) 3 28 80 0 zbp_b0:=qA1 (show (zbp_L self) 0=(zbp_l0 self) from by kernel_rfl) fun x R kn kx kr=>by
 simp only [zbp_p0,-eq_self,qAd,qAh,obA,obS,slL,slR,qAc];kernel_rfl
theorem zbp_subs (self:qHy→(List Eng.Node)→Int→Option (qHy × Int)):qAo (zbp_L self) (zbp_G self) 3 28 80 zbp_q:=qAl (show qAr (zbp_L self) (zbp_G self) 3 28 80 [(0,zbp_b0),(1,zbp_b1),(2,zbp_b2)] from ⟨(zbp_sub0 self),(zbp_sub1 self),(zbp_sub2 self),tV⟩)
theorem zbp_val_t (self:qHy→(List Eng.Node)→Int→Option (qHy × Int)) (hself:qAf Tryd.prog 66 (zbp_ws self)):qAm Tryd.prog 66 (zbp_cs (zbp_t self)):=qAn zbp_chk 28 (zbp_Gok self hself) 3 (fun x=>Nat.le_of_ble_eq_true rfl) (fun y=>rfl) (zbp_subs self) fun x y=>by
 simp only [zbp_t,-eq_self,qAd,qAh,obA,obS,slL,slR,qAc];kernel_rfl
def zbp_n:Nat→qHy→(List Eng.Node)→Int→Option (qHy × Int)
 | 0=>fun _ _ _=>none
 | n+1=>zbp_t (zbp_n n)
def zbp_s (b:qHy) (v:(List Eng.Node)) (at_:Int):Option (qHy × Int):=evt fun n=>zbp_n n b v at_
theorem zbp_valn:∀n,qAm Tryd.prog 66 (zbp_cs (zbp_n n))
 | 0=>qAm.zero fun args hp R k=>by
  show ((Dec.d zbp_da args).bind fun x=>(Dec.d zbp_db hp).bind fun y=>none)=none;cases Dec.d zbp_da args with
  | none=>rfl
  | some x=>cases Dec.d zbp_db hp <;> rfl
 | n+1=>zbp_val_t (zbp_n n) (qAu (zbp_valn n))
theorem zbp_val:qAm Tryd.prog 66 (zbp_cs zbp_s):=qAm.evt zbp_valn (fun args hp R k=>by
  show ((Dec.d zbp_da args).bind fun x=>(Dec.d zbp_db hp).bind fun y=>_)=(((Dec.d zbp_da args).bind fun x=>(Dec.d zbp_db hp).bind fun y=>_):Option (SV × List SB)).bind _;cases Dec.d zbp_da args with
  | none=>rfl
  | some x =>
   cases Dec.d zbp_db hp with
   | none=>rfl
   | some y=>simp only [obS,Option.bind_assoc]) fun args hp v hp' h=>by
  obtain ⟨x,h1,h2⟩:=Option.bind_eq_some_iff.1 h;obtain ⟨y,h3,h4⟩:=Option.bind_eq_some_iff.1 h2;obtain ⟨r,h5,h6⟩:=Option.bind_eq_some_iff.1 h4;obtain ⟨n,h7⟩:=evt_some h5;refine ⟨n,?_⟩;show ((Dec.d zbp_da args).bind fun x=>(Dec.d zbp_db hp).bind fun y=>_)=_;rw [h1];simp only [obS];rw [h3];simp only [obS];exact (congrArg (fun z=>Option.bind z _) h7).trans h6
def zbp_w:CQ:=zbp_ws zbp_s
theorem zbp_ok:qAf Tryd.prog 66 zbp_w:=qAu zbp_val
def zbu_q:IQ:=(.seq (rg 2 [oP 2 (.mv (vI 0))]) (.seq (rg 2 (rF 3 t0 1++[oP 7 (.len t6),oM 2 t7])) (.canon [(2000000,some 0,.u8,0)] [2] .ret)))
theorem zbu_chk:chk Tryd.prog 67 []=some (zbu_q.erase,[.tmp 2],8):=by kernel_rfl
def zbu_s (b:qHy):Option Int :=
 some (b.buf.length:Int)
def zbu_G:Nat→Option CQ:=tblQ []
theorem zbu_Gok:∀f C,zbu_G f=some C→qAf Tryd.prog f C:=fun f C h=>by cases h
def zbu_L:Nat→SubQ:=tblL []
theorem zbu_subs:qAo zbu_L zbu_G 2 3 8 zbu_q:=qAl (show qAr zbu_L zbu_G 2 3 8 [] from tV)
def zbu_da:=(qAb (dVC (dCO (dH 0 0))) dNil)
def zbu_db:=(qAb zDJW2 (qAb (qCi .u8) dNil))
def zbu_c:CS:=mkC zbu_da zbu_db (fun x y=>zbu_s (⟨y.1.1,y.2.1⟩:qHy)) (fun x y r=>.c (.o (.vI r))) fun x y r=>[.cells 111 [.opt y.1.1 0 0,.own 1],.view .u8 y.2.1]
theorem zbu_val:qAm Tryd.prog 67 zbu_c:=qAn zbu_chk 3 zbu_Gok 2 (fun x=>Nat.le_of_ble_eq_true rfl) (fun y=>rfl) zbu_subs fun x y=>by
 simp only [zbu_s,-eq_self,qAd,qAh,obA,obS,slL,slR,qAc];kernel_rfl
def zbu_w:CQ:=qCk [(0,some 0,none),(0,some 1,some (.u8,5))] (qC3 [true,false] zbu_c)
theorem zbu_ok:qAf Tryd.prog 67 zbu_w:=qAu zbu_val
def zbv_q:IQ:=(.seq (rg 2 [oP 2 (.mv (.v (.string ⟨#[]⟩)))]) (.seq (.reg 2 (some [0,1,2,3,4,5,6,7,8,9,10,11]) (rF 3 t0 1++[oP 7 (.ext .sdata [t6])]++rF 8 t0 1++[oP 12 (.len t11),oP 13 (.ext (.ustr 5) [t7,t12]),oM 2 t13])) (.canon [(2000000,some 0,.u8,0)] [2] .ret)))
theorem zbv_chk:chk Tryd.prog 68 []=some (zbv_q.erase,[.tmp 2],14):=by kernel_rfl
def zbv_s (b:qHy):Option (qHy × BA) :=
 gd (0<b.buf.length) <|
 gd ((b.buf.length:Int)=b.buf.length∧0<b.buf.length∧∀x∈b.buf,0≤x∧x<256) <|
 some ((⟨b.addr,[]⟩:qHy),(qBl b.buf))
def zbv_G:Nat→Option CQ:=tblQ []
theorem zbv_Gok:∀f C,zbv_G f=some C→qAf Tryd.prog f C:=fun f C h=>by cases h
def zbv_L:Nat→SubQ:=tblL []
theorem zbv_subs:qAo zbv_L zbv_G 2 3 14 zbv_q:=qAl (show qAr zbv_L zbv_G 2 3 14 [] from tV)
def zbv_da:=(qAb (dVC (dCO (dH 0 0))) dNil)
def zbv_db:=(qAb zDJW2 (qAb (dRow .u8 5) dNil))
def zbv_c:CS:=mkC zbv_da zbv_db (fun x y=>zbv_s (⟨y.1.1,y.2.1⟩:qHy)) (fun x y r=>.c (.o (.vS r.2))) fun x y r=>[.cells 111 [.opt r.1.addr 0 0,.own 1],.dead]
theorem zbv_val:qAm Tryd.prog 68 zbv_c:=qAn zbv_chk 3 zbv_Gok 2 (fun x=>Nat.le_of_ble_eq_true rfl) (fun y=>rfl) zbv_subs fun x y=>by
 simp only [zbv_s,-eq_self,qAd,qAh,obA,obS,slL,slR,qAc];kernel_rfl
def zbv_w:CQ:=qCk [(0,some 0,none),(0,some 1,some (.u8,5))] (qC3 [true,true] zbv_c)
theorem zbv_ok:qAf Tryd.prog 68 zbv_w:=qAu zbv_val
def zaq_q:IQ:=(.seq (rg 3 [oP 2 (.mv (.v (.string ⟨#[]⟩))),oP 3 (.mv (vI 0))]) (.seq (.seq (rg 7 [oM 5 t0,oP 6 (.call 65 [t5]),oP 7 (.un .not t6)]) (.cond t7 (.seq (rg 3 [oP 2 (.mv (.v (.string ⟨#[]⟩))),oP 3 (.mv (vI 31))]) (.cn [2,3] .ret)) .skip)) (.seq (rg 4 [oP 4 (.alloc 111 [.pointer none,.slice none 0 0])]) (.seq (rg 9 [oM 8 t0,oP 9 (.call 66 [t4,t8,(vI 0)])]) (.seq (.seq (rg 11 [oP 10 (.call 67 [t4]),oP 11 (.bi .gtr t10 (vI 262144))]) (.cond t11 (.seq (rg 3 [oP 2 (.mv (.v (.string ⟨#[]⟩))),oP 3 (.mv (vI 10))]) (.cn [2,3] .ret)) .skip)) (.seq (rg 3 [oP 12 (.call 68 [t4]),oM 2 t12,oP 3 (.mv (vI 0))]) (.cn [2,3] .ret)))))))
theorem zaq_chk:chk Tryd.prog 38 []=some (zaq_q.erase,[.tmp 2,.tmp 3],13):=by kernel_rfl
def zaq_s (v:(List Eng.Node)):Option (BA × Int) :=
 (zar_s v).bind fun r1 =>
 bif (!r1) then (
  some ((⟨#[]⟩:BA),(31:Int)))
 else (
  (zbp_s (⟨false,[]⟩:qHy) v (0:Int)).bind fun r2 =>
  (zbu_s r2.1).bind fun r3 =>
  bif decide ((262144:Int)<r3) then (
   some ((⟨#[]⟩:BA),(10:Int)))
  else (
   (zbv_s r2.1).bind fun r4 =>
   some (r4.2,(0:Int))))
def zaq_G:Nat→Option CQ:=tblQ [(65,zar_w),(66,zbp_w),(67,zbu_w),(68,zbv_w)]
theorem zaq_Gok:∀f C,zaq_G f=some C→qAf Tryd.prog f C:=qAj ⟨zar_ok,zbp_ok,zbu_ok,zbv_ok,tV⟩
def zaq_L:Nat→SubQ:=tblL []
theorem zaq_subs:qAo zaq_L zaq_G 1 5 13 zaq_q:=qAl (show qAr zaq_L zaq_G 1 5 13 [] from tV)
def zaq_da:=(qAb (dVC (dCO (dO 0))) dNil)
def zaq_db:=(qAb (qCi .node) dNil)
def zaq_c:CS:=mkC zaq_da zaq_db (fun x y=>zaq_s y.1) (fun x y r=>.tup [.o (.vS r.1),.o (.vI r.2)]) fun x y r=>[.view .node y.1]
theorem zaq_val:qAm Tryd.prog 38 zaq_c:=qAn zaq_chk 5 zaq_Gok 1 (fun x=>Nat.le_of_ble_eq_true rfl) (fun y=>rfl) zaq_subs fun x y=>by
 simp only [zaq_s,-eq_self,qAd,qAh,obA,obS,slL,slR,qAc];kernel_rfl
def zaq_w:CQ:=qCk [(0,none,some (.node,46))] (qDz [false] zaq_c)
theorem zaq_ok:qAf Tryd.prog 38 zaq_w:=qFx zaq_val
def zag_q:IQ:=(.seq (rg 3 [oP 1 (.box 24 4 t0),oP 2 (.mv (.v (.string ⟨#[]⟩))),oP 3 (.mv (vI 0))]) (.seq (rg 4 [oP 6 (.faddr 0 t1),oP 7 (.load none t6),oP 8 (.call 18 [t7]),oM 4 t8]) (.seq (.seq (rg 10 [oM 9 t4,oP 10 (.bi .eql t9 (.v (.string ⟨#[]⟩)))]) (.cond t10 (.seq (rg 3 [oP 2 (.mv (.v (.string ⟨#[]⟩))),oP 3 (.mv (vI 111))]) (.cn [2,3] .ret)) .skip)) (.seq (.seq (rg 24 [oP 11 (.faddr 1 t1),oP 12 (.load none t11),oP 13 (.call 53 [t12]),oP 14 (.un .not t13),oM 15 t14,oE 16 (.faddr 3 t1) 15,oE 17 (.load none t16) 15,oE 18 (.mv t17) 15,oF 19 (.faddr 2 t1) 18,oF 20 (.load none t19) 18,oF 21 (.call 53 [t20]) 18,oF 22 (.un .not t21) 18,oE 23 (.pick t18 t22 vF) 15,oP 24 (.pick t15 vT t23)]) (.cond t24 (.seq (rg 3 [oP 2 (.mv (.v (.string ⟨#[]⟩))),oP 3 (.mv (vI 110))]) (.cn [2,3] .ret)) .skip)) (.seq (rg 5 [oP 25 (.build [.int .i64 0,.string ⟨#[]⟩,.string ⟨#[]⟩,.bool false,.int .i64 0,.int .i64 0] [(0,1,(vI 7)),(5,1,(vI 2))]),oM 26 t4,oP 27 (.build [.int .i64 0,.string ⟨#[]⟩,.string ⟨#[]⟩,.bool false,.int .i64 0,.int .i64 0] [(0,1,(vI 5)),(1,1,(.v (.string ⟨#[97,108,103]⟩))),(2,1,t26)]),oP 28 (.faddr 1 t1),oP 29 (.load none t28),oP 30 (.build [.int .i64 0,.string ⟨#[]⟩,.string ⟨#[]⟩,.bool false,.int .i64 0,.int .i64 0] [(0,1,(vI 5)),(1,1,(.v (.string ⟨#[107,105,100]⟩))),(2,1,t29)]),oP 31 (.bslice 46 6 3 [.int .i64 0,.string ⟨#[]⟩,.string ⟨#[]⟩,.bool false,.int .i64 0,.int .i64 0] [(0,t25),(1,t27),(2,t30)]),oM 5 t31]) (.seq (.seq (rg 33 [oP 32 (.faddr 3 t1),oP 33 (.load none t32)]) (.cond t33 (.seq (rg 0 [oM 34 t5,oP 35 (.iaddr 6 t34 (vI 0)),oP 36 (.faddr 5 t35),oP 37 (.load none t36),oP 38 (.bi .add t37 (vI 1)),oP 39 (.iaddr 6 t34 (vI 0)),oP 40 (.faddr 5 t39),oN (.store 1 t40 t38)]) (rg 5 [oM 41 t5,oP 42 (.faddr 2 t1),oP 43 (.load none t42),oP 44 (.build [.int .i64 0,.string ⟨#[]⟩,.string ⟨#[]⟩,.bool false,.int .i64 0,.int .i64 0] [(0,1,(vI 5)),(1,1,(.v (.string ⟨#[116,121,112]⟩))),(2,1,t43)]),oP 45 (.bslice 46 6 1 [.int .i64 0,.string ⟨#[]⟩,.string ⟨#[]⟩,.bool false,.int .i64 0,.int .i64 0] [(0,t44)]),oP 46 (.append 46 6 64 [.int .i64 0,.string ⟨#[]⟩,.string ⟨#[]⟩,.bool false,.int .i64 0,.int .i64 0] t41 t45),oM 5 t46])) .skip)) (.seq (rg 3 [oM 47 t5,oP 48 (.call 38 [t47]),oP 49 (.extract t48 0),oP 50 (.extract t48 1),oM 2 t49,oM 3 t50]) (.cn [2,3] .ret))))))))
theorem zag_chk:chk Tryd.prog 19 []=some (zag_q.erase,[.tmp 2,.tmp 3],51):=by kernel_rfl
def zag_s (h:qH9):Option (BA × Int) :=
 (qA4 h.alg).bind fun r1 =>
 bif decide (r1=(⟨#[]⟩:BA)) then (
  some ((⟨#[]⟩:BA),(111:Int)))
 else (
  (qAs h.kid).bind fun r2 =>
  bif (!r2) then (
   some ((⟨#[]⟩:BA),(110:Int)))
  else (
   bif h.hasTyp then (
    (qAs h.typ).bind fun r3 =>
    bif (!r3) then (
     some ((⟨#[]⟩:BA),(110:Int)))
    else (
     bif h.hasTyp then (
      gd (0≤(0:Int)∧(0:Int)<[(⟨(7:Int),(⟨#[]⟩:BA),(⟨#[]⟩:BA),false,(0:Int),(2:Int)⟩:Eng.Node),(⟨(5:Int),(⟨#[97,108,103]⟩:BA),r1,false,(0:Int),(0:Int)⟩:Eng.Node),(⟨(5:Int),(⟨#[107,105,100]⟩:BA),h.kid,false,(0:Int),(0:Int)⟩:Eng.Node)].length) <|
      gd ((Int.toNat (0:Int))<[(⟨(7:Int),(⟨#[]⟩:BA),(⟨#[]⟩:BA),false,(0:Int),(2:Int)⟩:Eng.Node),(⟨(5:Int),(⟨#[97,108,103]⟩:BA),r1,false,(0:Int),(0:Int)⟩:Eng.Node),(⟨(5:Int),(⟨#[107,105,100]⟩:BA),h.kid,false,(0:Int),(0:Int)⟩:Eng.Node)].length) <|
      gd ((Int.toNat (0:Int))<[(⟨(7:Int),(⟨#[]⟩:BA),(⟨#[]⟩:BA),false,(0:Int),(2:Int)⟩:Eng.Node),(⟨(5:Int),(⟨#[97,108,103]⟩:BA),r1,false,(0:Int),(0:Int)⟩:Eng.Node),(⟨(5:Int),(⟨#[107,105,100]⟩:BA),h.kid,false,(0:Int),(0:Int)⟩:Eng.Node)].length) <|
      gd (qAe ((([(⟨(7:Int),(⟨#[]⟩:BA),(⟨#[]⟩:BA),false,(0:Int),(2:Int)⟩:Eng.Node),(⟨(5:Int),(⟨#[97,108,103]⟩:BA),r1,false,(0:Int),(0:Int)⟩:Eng.Node),(⟨(5:Int),(⟨#[107,105,100]⟩:BA),h.kid,false,(0:Int),(0:Int)⟩:Eng.Node)].getD (Int.toNat (0:Int)) (ET.dft .node)).kids)+(1:Int))) <|
      gd (0≤(0:Int)∧(0:Int)<[(⟨(7:Int),(⟨#[]⟩:BA),(⟨#[]⟩:BA),false,(0:Int),(2:Int)⟩:Eng.Node),(⟨(5:Int),(⟨#[97,108,103]⟩:BA),r1,false,(0:Int),(0:Int)⟩:Eng.Node),(⟨(5:Int),(⟨#[107,105,100]⟩:BA),h.kid,false,(0:Int),(0:Int)⟩:Eng.Node)].length) <|
      gd ((Int.toNat (0:Int))<[(⟨(7:Int),(⟨#[]⟩:BA),(⟨#[]⟩:BA),false,(0:Int),(2:Int)⟩:Eng.Node),(⟨(5:Int),(⟨#[97,108,103]⟩:BA),r1,false,(0:Int),(0:Int)⟩:Eng.Node),(⟨(5:Int),(⟨#[107,105,100]⟩:BA),h.kid,false,(0:Int),(0:Int)⟩:Eng.Node)].length) <|
      gd ((Int.toNat (0:Int))<[(⟨(7:Int),(⟨#[]⟩:BA),(⟨#[]⟩:BA),false,(0:Int),(2:Int)⟩:Eng.Node),(⟨(5:Int),(⟨#[97,108,103]⟩:BA),r1,false,(0:Int),(0:Int)⟩:Eng.Node),(⟨(5:Int),(⟨#[107,105,100]⟩:BA),h.kid,false,(0:Int),(0:Int)⟩:Eng.Node)].length) <|
      gd (([(⟨(7:Int),(⟨#[]⟩:BA),(⟨#[]⟩:BA),false,(0:Int),(2:Int)⟩:Eng.Node),(⟨(5:Int),(⟨#[97,108,103]⟩:BA),r1,false,(0:Int),(0:Int)⟩:Eng.Node),(⟨(5:Int),(⟨#[107,105,100]⟩:BA),h.kid,false,(0:Int),(0:Int)⟩:Eng.Node)].set (Int.toNat (0:Int)) (⟨([(⟨(7:Int),(⟨#[]⟩:BA),(⟨#[]⟩:BA),false,(0:Int),(2:Int)⟩:Eng.Node),(⟨(5:Int),(⟨#[97,108,103]⟩:BA),r1,false,(0:Int),(0:Int)⟩:Eng.Node),(⟨(5:Int),(⟨#[107,105,100]⟩:BA),h.kid,false,(0:Int),(0:Int)⟩:Eng.Node)].getD (Int.toNat (0:Int)) (ET.dft .node)).kind,([(⟨(7:Int),(⟨#[]⟩:BA),(⟨#[]⟩:BA),false,(0:Int),(2:Int)⟩:Eng.Node),(⟨(5:Int),(⟨#[97,108,103]⟩:BA),r1,false,(0:Int),(0:Int)⟩:Eng.Node),(⟨(5:Int),(⟨#[107,105,100]⟩:BA),h.kid,false,(0:Int),(0:Int)⟩:Eng.Node)].getD (Int.toNat (0:Int)) (ET.dft .node)).key,([(⟨(7:Int),(⟨#[]⟩:BA),(⟨#[]⟩:BA),false,(0:Int),(2:Int)⟩:Eng.Node),(⟨(5:Int),(⟨#[97,108,103]⟩:BA),r1,false,(0:Int),(0:Int)⟩:Eng.Node),(⟨(5:Int),(⟨#[107,105,100]⟩:BA),h.kid,false,(0:Int),(0:Int)⟩:Eng.Node)].getD (Int.toNat (0:Int)) (ET.dft .node)).text,([(⟨(7:Int),(⟨#[]⟩:BA),(⟨#[]⟩:BA),false,(0:Int),(2:Int)⟩:Eng.Node),(⟨(5:Int),(⟨#[97,108,103]⟩:BA),r1,false,(0:Int),(0:Int)⟩:Eng.Node),(⟨(5:Int),(⟨#[107,105,100]⟩:BA),h.kid,false,(0:Int),(0:Int)⟩:Eng.Node)].getD (Int.toNat (0:Int)) (ET.dft .node)).whole,([(⟨(7:Int),(⟨#[]⟩:BA),(⟨#[]⟩:BA),false,(0:Int),(2:Int)⟩:Eng.Node),(⟨(5:Int),(⟨#[97,108,103]⟩:BA),r1,false,(0:Int),(0:Int)⟩:Eng.Node),(⟨(5:Int),(⟨#[107,105,100]⟩:BA),h.kid,false,(0:Int),(0:Int)⟩:Eng.Node)].getD (Int.toNat (0:Int)) (ET.dft .node)).int,((([(⟨(7:Int),(⟨#[]⟩:BA),(⟨#[]⟩:BA),false,(0:Int),(2:Int)⟩:Eng.Node),(⟨(5:Int),(⟨#[97,108,103]⟩:BA),r1,false,(0:Int),(0:Int)⟩:Eng.Node),(⟨(5:Int),(⟨#[107,105,100]⟩:BA),h.kid,false,(0:Int),(0:Int)⟩:Eng.Node)].getD (Int.toNat (0:Int)) (ET.dft .node)).kids)+(1:Int))⟩:Eng.Node)).length+([(⟨(5:Int),(⟨#[116,121,112]⟩:BA),h.typ,false,(0:Int),(0:Int)⟩:Eng.Node)]:List Eng.Node).length≤9223372036854775807∧(([(⟨(7:Int),(⟨#[]⟩:BA),(⟨#[]⟩:BA),false,(0:Int),(2:Int)⟩:Eng.Node),(⟨(5:Int),(⟨#[97,108,103]⟩:BA),r1,false,(0:Int),(0:Int)⟩:Eng.Node),(⟨(5:Int),(⟨#[107,105,100]⟩:BA),h.kid,false,(0:Int),(0:Int)⟩:Eng.Node)].set (Int.toNat (0:Int)) (⟨([(⟨(7:Int),(⟨#[]⟩:BA),(⟨#[]⟩:BA),false,(0:Int),(2:Int)⟩:Eng.Node),(⟨(5:Int),(⟨#[97,108,103]⟩:BA),r1,false,(0:Int),(0:Int)⟩:Eng.Node),(⟨(5:Int),(⟨#[107,105,100]⟩:BA),h.kid,false,(0:Int),(0:Int)⟩:Eng.Node)].getD (Int.toNat (0:Int)) (ET.dft .node)).kind,([(⟨(7:Int),(⟨#[]⟩:BA),(⟨#[]⟩:BA),false,(0:Int),(2:Int)⟩:Eng.Node),(⟨(5:Int),(⟨#[97,108,103]⟩:BA),r1,false,(0:Int),(0:Int)⟩:Eng.Node),(⟨(5:Int),(⟨#[107,105,100]⟩:BA),h.kid,false,(0:Int),(0:Int)⟩:Eng.Node)].getD (Int.toNat (0:Int)) (ET.dft .node)).key,([(⟨(7:Int),(⟨#[]⟩:BA),(⟨#[]⟩:BA),false,(0:Int),(2:Int)⟩:Eng.Node),(⟨(5:Int),(⟨#[97,108,103]⟩:BA),r1,false,(0:Int),(0:Int)⟩:Eng.Node),(⟨(5:Int),(⟨#[107,105,100]⟩:BA),h.kid,false,(0:Int),(0:Int)⟩:Eng.Node)].getD (Int.toNat (0:Int)) (ET.dft .node)).text,([(⟨(7:Int),(⟨#[]⟩:BA),(⟨#[]⟩:BA),false,(0:Int),(2:Int)⟩:Eng.Node),(⟨(5:Int),(⟨#[97,108,103]⟩:BA),r1,false,(0:Int),(0:Int)⟩:Eng.Node),(⟨(5:Int),(⟨#[107,105,100]⟩:BA),h.kid,false,(0:Int),(0:Int)⟩:Eng.Node)].getD (Int.toNat (0:Int)) (ET.dft .node)).whole,([(⟨(7:Int),(⟨#[]⟩:BA),(⟨#[]⟩:BA),false,(0:Int),(2:Int)⟩:Eng.Node),(⟨(5:Int),(⟨#[97,108,103]⟩:BA),r1,false,(0:Int),(0:Int)⟩:Eng.Node),(⟨(5:Int),(⟨#[107,105,100]⟩:BA),h.kid,false,(0:Int),(0:Int)⟩:Eng.Node)].getD (Int.toNat (0:Int)) (ET.dft .node)).int,((([(⟨(7:Int),(⟨#[]⟩:BA),(⟨#[]⟩:BA),false,(0:Int),(2:Int)⟩:Eng.Node),(⟨(5:Int),(⟨#[97,108,103]⟩:BA),r1,false,(0:Int),(0:Int)⟩:Eng.Node),(⟨(5:Int),(⟨#[107,105,100]⟩:BA),h.kid,false,(0:Int),(0:Int)⟩:Eng.Node)].getD (Int.toNat (0:Int)) (ET.dft .node)).kids)+(1:Int))⟩:Eng.Node)).length+([(⟨(5:Int),(⟨#[116,121,112]⟩:BA),h.typ,false,(0:Int),(0:Int)⟩:Eng.Node)]:List Eng.Node).length)*64≤140737488355328) <|
      (zaq_s (([(⟨(7:Int),(⟨#[]⟩:BA),(⟨#[]⟩:BA),false,(0:Int),(2:Int)⟩:Eng.Node),(⟨(5:Int),(⟨#[97,108,103]⟩:BA),r1,false,(0:Int),(0:Int)⟩:Eng.Node),(⟨(5:Int),(⟨#[107,105,100]⟩:BA),h.kid,false,(0:Int),(0:Int)⟩:Eng.Node)].set (Int.toNat (0:Int)) (⟨([(⟨(7:Int),(⟨#[]⟩:BA),(⟨#[]⟩:BA),false,(0:Int),(2:Int)⟩:Eng.Node),(⟨(5:Int),(⟨#[97,108,103]⟩:BA),r1,false,(0:Int),(0:Int)⟩:Eng.Node),(⟨(5:Int),(⟨#[107,105,100]⟩:BA),h.kid,false,(0:Int),(0:Int)⟩:Eng.Node)].getD (Int.toNat (0:Int)) (ET.dft .node)).kind,([(⟨(7:Int),(⟨#[]⟩:BA),(⟨#[]⟩:BA),false,(0:Int),(2:Int)⟩:Eng.Node),(⟨(5:Int),(⟨#[97,108,103]⟩:BA),r1,false,(0:Int),(0:Int)⟩:Eng.Node),(⟨(5:Int),(⟨#[107,105,100]⟩:BA),h.kid,false,(0:Int),(0:Int)⟩:Eng.Node)].getD (Int.toNat (0:Int)) (ET.dft .node)).key,([(⟨(7:Int),(⟨#[]⟩:BA),(⟨#[]⟩:BA),false,(0:Int),(2:Int)⟩:Eng.Node),(⟨(5:Int),(⟨#[97,108,103]⟩:BA),r1,false,(0:Int),(0:Int)⟩:Eng.Node),(⟨(5:Int),(⟨#[107,105,100]⟩:BA),h.kid,false,(0:Int),(0:Int)⟩:Eng.Node)].getD (Int.toNat (0:Int)) (ET.dft .node)).text,([(⟨(7:Int),(⟨#[]⟩:BA),(⟨#[]⟩:BA),false,(0:Int),(2:Int)⟩:Eng.Node),(⟨(5:Int),(⟨#[97,108,103]⟩:BA),r1,false,(0:Int),(0:Int)⟩:Eng.Node),(⟨(5:Int),(⟨#[107,105,100]⟩:BA),h.kid,false,(0:Int),(0:Int)⟩:Eng.Node)].getD (Int.toNat (0:Int)) (ET.dft .node)).whole,([(⟨(7:Int),(⟨#[]⟩:BA),(⟨#[]⟩:BA),false,(0:Int),(2:Int)⟩:Eng.Node),(⟨(5:Int),(⟨#[97,108,103]⟩:BA),r1,false,(0:Int),(0:Int)⟩:Eng.Node),(⟨(5:Int),(⟨#[107,105,100]⟩:BA),h.kid,false,(0:Int),(0:Int)⟩:Eng.Node)].getD (Int.toNat (0:Int)) (ET.dft .node)).int,((([(⟨(7:Int),(⟨#[]⟩:BA),(⟨#[]⟩:BA),false,(0:Int),(2:Int)⟩:Eng.Node),(⟨(5:Int),(⟨#[97,108,103]⟩:BA),r1,false,(0:Int),(0:Int)⟩:Eng.Node),(⟨(5:Int),(⟨#[107,105,100]⟩:BA),h.kid,false,(0:Int),(0:Int)⟩:Eng.Node)].getD (Int.toNat (0:Int)) (ET.dft .node)).kids)+(1:Int))⟩:Eng.Node))++[(⟨(5:Int),(⟨#[116,121,112]⟩:BA),h.typ,false,(0:Int),(0:Int)⟩:Eng.Node)])).bind fun r4 =>
      some (r4.1,r4.2))
     else (
      (zaq_s [(⟨(7:Int),(⟨#[]⟩:BA),(⟨#[]⟩:BA),false,(0:Int),(2:Int)⟩:Eng.Node),(⟨(5:Int),(⟨#[97,108,103]⟩:BA),r1,false,(0:Int),(0:Int)⟩:Eng.Node),(⟨(5:Int),(⟨#[107,105,100]⟩:BA),h.kid,false,(0:Int),(0:Int)⟩:Eng.Node)]).bind fun r5 =>
      some (r5.1,r5.2))))
   else (
    bif h.hasTyp then (
     gd (0≤(0:Int)∧(0:Int)<[(⟨(7:Int),(⟨#[]⟩:BA),(⟨#[]⟩:BA),false,(0:Int),(2:Int)⟩:Eng.Node),(⟨(5:Int),(⟨#[97,108,103]⟩:BA),r1,false,(0:Int),(0:Int)⟩:Eng.Node),(⟨(5:Int),(⟨#[107,105,100]⟩:BA),h.kid,false,(0:Int),(0:Int)⟩:Eng.Node)].length) <|
     gd ((Int.toNat (0:Int))<[(⟨(7:Int),(⟨#[]⟩:BA),(⟨#[]⟩:BA),false,(0:Int),(2:Int)⟩:Eng.Node),(⟨(5:Int),(⟨#[97,108,103]⟩:BA),r1,false,(0:Int),(0:Int)⟩:Eng.Node),(⟨(5:Int),(⟨#[107,105,100]⟩:BA),h.kid,false,(0:Int),(0:Int)⟩:Eng.Node)].length) <|
     gd ((Int.toNat (0:Int))<[(⟨(7:Int),(⟨#[]⟩:BA),(⟨#[]⟩:BA),false,(0:Int),(2:Int)⟩:Eng.Node),(⟨(5:Int),(⟨#[97,108,103]⟩:BA),r1,false,(0:Int),(0:Int)⟩:Eng.Node),(⟨(5:Int),(⟨#[107,105,100]⟩:BA),h.kid,false,(0:Int),(0:Int)⟩:Eng.Node)].length) <|
     gd (qAe ((([(⟨(7:Int),(⟨#[]⟩:BA),(⟨#[]⟩:BA),false,(0:Int),(2:Int)⟩:Eng.Node),(⟨(5:Int),(⟨#[97,108,103]⟩:BA),r1,false,(0:Int),(0:Int)⟩:Eng.Node),(⟨(5:Int),(⟨#[107,105,100]⟩:BA),h.kid,false,(0:Int),(0:Int)⟩:Eng.Node)].getD (Int.toNat (0:Int)) (ET.dft .node)).kids)+(1:Int))) <|
     gd (0≤(0:Int)∧(0:Int)<[(⟨(7:Int),(⟨#[]⟩:BA),(⟨#[]⟩:BA),false,(0:Int),(2:Int)⟩:Eng.Node),(⟨(5:Int),(⟨#[97,108,103]⟩:BA),r1,false,(0:Int),(0:Int)⟩:Eng.Node),(⟨(5:Int),(⟨#[107,105,100]⟩:BA),h.kid,false,(0:Int),(0:Int)⟩:Eng.Node)].length) <|
     gd ((Int.toNat (0:Int))<[(⟨(7:Int),(⟨#[]⟩:BA),(⟨#[]⟩:BA),false,(0:Int),(2:Int)⟩:Eng.Node),(⟨(5:Int),(⟨#[97,108,103]⟩:BA),r1,false,(0:Int),(0:Int)⟩:Eng.Node),(⟨(5:Int),(⟨#[107,105,100]⟩:BA),h.kid,false,(0:Int),(0:Int)⟩:Eng.Node)].length) <|
     gd ((Int.toNat (0:Int))<[(⟨(7:Int),(⟨#[]⟩:BA),(⟨#[]⟩:BA),false,(0:Int),(2:Int)⟩:Eng.Node),(⟨(5:Int),(⟨#[97,108,103]⟩:BA),r1,false,(0:Int),(0:Int)⟩:Eng.Node),(⟨(5:Int),(⟨#[107,105,100]⟩:BA),h.kid,false,(0:Int),(0:Int)⟩:Eng.Node)].length) <|
     gd (([(⟨(7:Int),(⟨#[]⟩:BA),(⟨#[]⟩:BA),false,(0:Int),(2:Int)⟩:Eng.Node),(⟨(5:Int),(⟨#[97,108,103]⟩:BA),r1,false,(0:Int),(0:Int)⟩:Eng.Node),(⟨(5:Int),(⟨#[107,105,100]⟩:BA),h.kid,false,(0:Int),(0:Int)⟩:Eng.Node)].set (Int.toNat (0:Int)) (⟨([(⟨(7:Int),(⟨#[]⟩:BA),(⟨#[]⟩:BA),false,(0:Int),(2:Int)⟩:Eng.Node),(⟨(5:Int),(⟨#[97,108,103]⟩:BA),r1,false,(0:Int),(0:Int)⟩:Eng.Node),(⟨(5:Int),(⟨#[107,105,100]⟩:BA),h.kid,false,(0:Int),(0:Int)⟩:Eng.Node)].getD (Int.toNat (0:Int)) (ET.dft .node)).kind,([(⟨(7:Int),(⟨#[]⟩:BA),(⟨#[]⟩:BA),false,(0:Int),(2:Int)⟩:Eng.Node),(⟨(5:Int),(⟨#[97,108,103]⟩:BA),r1,false,(0:Int),(0:Int)⟩:Eng.Node),(⟨(5:Int),(⟨#[107,105,100]⟩:BA),h.kid,false,(0:Int),(0:Int)⟩:Eng.Node)].getD (Int.toNat (0:Int)) (ET.dft .node)).key,([(⟨(7:Int),(⟨#[]⟩:BA),(⟨#[]⟩:BA),false,(0:Int),(2:Int)⟩:Eng.Node),(⟨(5:Int),(⟨#[97,108,103]⟩:BA),r1,false,(0:Int),(0:Int)⟩:Eng.Node),(⟨(5:Int),(⟨#[107,105,100]⟩:BA),h.kid,false,(0:Int),(0:Int)⟩:Eng.Node)].getD (Int.toNat (0:Int)) (ET.dft .node)).text,([(⟨(7:Int),(⟨#[]⟩:BA),(⟨#[]⟩:BA),false,(0:Int),(2:Int)⟩:Eng.Node),(⟨(5:Int),(⟨#[97,108,103]⟩:BA),r1,false,(0:Int),(0:Int)⟩:Eng.Node),(⟨(5:Int),(⟨#[107,105,100]⟩:BA),h.kid,false,(0:Int),(0:Int)⟩:Eng.Node)].getD (Int.toNat (0:Int)) (ET.dft .node)).whole,([(⟨(7:Int),(⟨#[]⟩:BA),(⟨#[]⟩:BA),false,(0:Int),(2:Int)⟩:Eng.Node),(⟨(5:Int),(⟨#[97,108,103]⟩:BA),r1,false,(0:Int),(0:Int)⟩:Eng.Node),(⟨(5:Int),(⟨#[107,105,100]⟩:BA),h.kid,false,(0:Int),(0:Int)⟩:Eng.Node)].getD (Int.toNat (0:Int)) (ET.dft .node)).int,((([(⟨(7:Int),(⟨#[]⟩:BA),(⟨#[]⟩:BA),false,(0:Int),(2:Int)⟩:Eng.Node),(⟨(5:Int),(⟨#[97,108,103]⟩:BA),r1,false,(0:Int),(0:Int)⟩:Eng.Node),(⟨(5:Int),(⟨#[107,105,100]⟩:BA),h.kid,false,(0:Int),(0:Int)⟩:Eng.Node)].getD (Int.toNat (0:Int)) (ET.dft .node)).kids)+(1:Int))⟩:Eng.Node)).length+([(⟨(5:Int),(⟨#[116,121,112]⟩:BA),h.typ,false,(0:Int),(0:Int)⟩:Eng.Node)]:List Eng.Node).length≤9223372036854775807∧(([(⟨(7:Int),(⟨#[]⟩:BA),(⟨#[]⟩:BA),false,(0:Int),(2:Int)⟩:Eng.Node),(⟨(5:Int),(⟨#[97,108,103]⟩:BA),r1,false,(0:Int),(0:Int)⟩:Eng.Node),(⟨(5:Int),(⟨#[107,105,100]⟩:BA),h.kid,false,(0:Int),(0:Int)⟩:Eng.Node)].set (Int.toNat (0:Int)) (⟨([(⟨(7:Int),(⟨#[]⟩:BA),(⟨#[]⟩:BA),false,(0:Int),(2:Int)⟩:Eng.Node),(⟨(5:Int),(⟨#[97,108,103]⟩:BA),r1,false,(0:Int),(0:Int)⟩:Eng.Node),(⟨(5:Int),(⟨#[107,105,100]⟩:BA),h.kid,false,(0:Int),(0:Int)⟩:Eng.Node)].getD (Int.toNat (0:Int)) (ET.dft .node)).kind,([(⟨(7:Int),(⟨#[]⟩:BA),(⟨#[]⟩:BA),false,(0:Int),(2:Int)⟩:Eng.Node),(⟨(5:Int),(⟨#[97,108,103]⟩:BA),r1,false,(0:Int),(0:Int)⟩:Eng.Node),(⟨(5:Int),(⟨#[107,105,100]⟩:BA),h.kid,false,(0:Int),(0:Int)⟩:Eng.Node)].getD (Int.toNat (0:Int)) (ET.dft .node)).key,([(⟨(7:Int),(⟨#[]⟩:BA),(⟨#[]⟩:BA),false,(0:Int),(2:Int)⟩:Eng.Node),(⟨(5:Int),(⟨#[97,108,103]⟩:BA),r1,false,(0:Int),(0:Int)⟩:Eng.Node),(⟨(5:Int),(⟨#[107,105,100]⟩:BA),h.kid,false,(0:Int),(0:Int)⟩:Eng.Node)].getD (Int.toNat (0:Int)) (ET.dft .node)).text,([(⟨(7:Int),(⟨#[]⟩:BA),(⟨#[]⟩:BA),false,(0:Int),(2:Int)⟩:Eng.Node),(⟨(5:Int),(⟨#[97,108,103]⟩:BA),r1,false,(0:Int),(0:Int)⟩:Eng.Node),(⟨(5:Int),(⟨#[107,105,100]⟩:BA),h.kid,false,(0:Int),(0:Int)⟩:Eng.Node)].getD (Int.toNat (0:Int)) (ET.dft .node)).whole,([(⟨(7:Int),(⟨#[]⟩:BA),(⟨#[]⟩:BA),false,(0:Int),(2:Int)⟩:Eng.Node),(⟨(5:Int),(⟨#[97,108,103]⟩:BA),r1,false,(0:Int),(0:Int)⟩:Eng.Node),(⟨(5:Int),(⟨#[107,105,100]⟩:BA),h.kid,false,(0:Int),(0:Int)⟩:Eng.Node)].getD (Int.toNat (0:Int)) (ET.dft .node)).int,((([(⟨(7:Int),(⟨#[]⟩:BA),(⟨#[]⟩:BA),false,(0:Int),(2:Int)⟩:Eng.Node),(⟨(5:Int),(⟨#[97,108,103]⟩:BA),r1,false,(0:Int),(0:Int)⟩:Eng.Node),(⟨(5:Int),(⟨#[107,105,100]⟩:BA),h.kid,false,(0:Int),(0:Int)⟩:Eng.Node)].getD (Int.toNat (0:Int)) (ET.dft .node)).kids)+(1:Int))⟩:Eng.Node)).length+([(⟨(5:Int),(⟨#[116,121,112]⟩:BA),h.typ,false,(0:Int),(0:Int)⟩:Eng.Node)]:List Eng.Node).length)*64≤140737488355328) <|
     (zaq_s (([(⟨(7:Int),(⟨#[]⟩:BA),(⟨#[]⟩:BA),false,(0:Int),(2:Int)⟩:Eng.Node),(⟨(5:Int),(⟨#[97,108,103]⟩:BA),r1,false,(0:Int),(0:Int)⟩:Eng.Node),(⟨(5:Int),(⟨#[107,105,100]⟩:BA),h.kid,false,(0:Int),(0:Int)⟩:Eng.Node)].set (Int.toNat (0:Int)) (⟨([(⟨(7:Int),(⟨#[]⟩:BA),(⟨#[]⟩:BA),false,(0:Int),(2:Int)⟩:Eng.Node),(⟨(5:Int),(⟨#[97,108,103]⟩:BA),r1,false,(0:Int),(0:Int)⟩:Eng.Node),(⟨(5:Int),(⟨#[107,105,100]⟩:BA),h.kid,false,(0:Int),(0:Int)⟩:Eng.Node)].getD (Int.toNat (0:Int)) (ET.dft .node)).kind,([(⟨(7:Int),(⟨#[]⟩:BA),(⟨#[]⟩:BA),false,(0:Int),(2:Int)⟩:Eng.Node),(⟨(5:Int),(⟨#[97,108,103]⟩:BA),r1,false,(0:Int),(0:Int)⟩:Eng.Node),(⟨(5:Int),(⟨#[107,105,100]⟩:BA),h.kid,false,(0:Int),(0:Int)⟩:Eng.Node)].getD (Int.toNat (0:Int)) (ET.dft .node)).key,([(⟨(7:Int),(⟨#[]⟩:BA),(⟨#[]⟩:BA),false,(0:Int),(2:Int)⟩:Eng.Node),(⟨(5:Int),(⟨#[97,108,103]⟩:BA),r1,false,(0:Int),(0:Int)⟩:Eng.Node),(⟨(5:Int),(⟨#[107,105,100]⟩:BA),h.kid,false,(0:Int),(0:Int)⟩:Eng.Node)].getD (Int.toNat (0:Int)) (ET.dft .node)).text,([(⟨(7:Int),(⟨#[]⟩:BA),(⟨#[]⟩:BA),false,(0:Int),(2:Int)⟩:Eng.Node),(⟨(5:Int),(⟨#[97,108,103]⟩:BA),r1,false,(0:Int),(0:Int)⟩:Eng.Node),(⟨(5:Int),(⟨#[107,105,100]⟩:BA),h.kid,false,(0:Int),(0:Int)⟩:Eng.Node)].getD (Int.toNat (0:Int)) (ET.dft .node)).whole,([(⟨(7:Int),(⟨#[]⟩:BA),(⟨#[]⟩:BA),false,(0:Int),(2:Int)⟩:Eng.Node),(⟨(5:Int),(⟨#[97,108,103]⟩:BA),r1,false,(0:Int),(0:Int)⟩:Eng.Node),(⟨(5:Int),(⟨#[107,105,100]⟩:BA),h.kid,false,(0:Int),(0:Int)⟩:Eng.Node)].getD (Int.toNat (0:Int)) (ET.dft .node)).int,((([(⟨(7:Int),(⟨#[]⟩:BA),(⟨#[]⟩:BA),false,(0:Int),(2:Int)⟩:Eng.Node),(⟨(5:Int),(⟨#[97,108,103]⟩:BA),r1,false,(0:Int),(0:Int)⟩:Eng.Node),(⟨(5:Int),(⟨#[107,105,100]⟩:BA),h.kid,false,(0:Int),(0:Int)⟩:Eng.Node)].getD (Int.toNat (0:Int)) (ET.dft .node)).kids)+(1:Int))⟩:Eng.Node))++[(⟨(5:Int),(⟨#[116,121,112]⟩:BA),h.typ,false,(0:Int),(0:Int)⟩:Eng.Node)])).bind fun r6 =>
     some (r6.1,r6.2))
    else (
     (zaq_s [(⟨(7:Int),(⟨#[]⟩:BA),(⟨#[]⟩:BA),false,(0:Int),(2:Int)⟩:Eng.Node),(⟨(5:Int),(⟨#[97,108,103]⟩:BA),r1,false,(0:Int),(0:Int)⟩:Eng.Node),(⟨(5:Int),(⟨#[107,105,100]⟩:BA),h.kid,false,(0:Int),(0:Int)⟩:Eng.Node)]).bind fun r7 =>
     some (r7.1,r7.2)))))
def zag_G:Nat→Option CQ:=tblQ [(18,qFu),(53,qC1),(38,zaq_w)]
theorem zag_Gok:∀f C,zag_G f=some C→qAf Tryd.prog f C:=qAj ⟨qHa,qDu,zaq_ok,tV⟩
def zag_L:Nat→SubQ:=tblL []
theorem zag_subs:qAo zag_L zag_G 0 6 51 zag_q:=qAl (show qAr zag_L zag_G 0 6 51 [] from tV)
def zag_da:=(qAb (dVC (dCA zDJW1)) dNil)
def zag_db:=(dNil:Dec Unit (List SB))
def zag_c:CS:=mkC zag_da zag_db (fun x y=>zag_s (⟨x.1.1,x.1.2.1,x.1.2.2.1,x.1.2.2.2.1⟩:qH9)) (fun x y r=>.tup [.o (.vS r.1),.o (.vI r.2)]) fun x y r=>[]
theorem zag_val:qAm Tryd.prog 19 zag_c:=qAn zag_chk 6 zag_Gok 0 (fun x=>Nat.le_of_ble_eq_true rfl) (fun y=>rfl) zag_subs fun x y=>by
 simp only [zag_s,-eq_self,qAd,qAh,obA,obS,slL,slR,qAc];kernel_rfl
def zag_w:CQ:=qDz [] zag_c
theorem zag_ok:qAf Tryd.prog 19 zag_w:=qAt zag_val
def zbt_b0:IQ:=(.loop [0,1,7,8] (.seq (rg 9 [oP 9 (.bi .lss t8 t7)]) (.seq (.cond t9 .skip (.cn [] (.exit 0))) (.seq (.block 1 (.seq (rg 5 [oM 10 t8,oM 5 t10]) (.seq (rg 16 [oM 11 t1,oM 12 t0,oM 13 t5,oP 14 (.iaddr 1 t12 t13),oP 15 (.load none t14),oP 16 (.bi .eql t11 t15)]) (.cond t16 (.seq (rg 4 [oM 17 t5,oM 4 t17]) (.cn [4] .ret)) .skip)))) (rg 8 [oP 18 (.bi .add t8 (vI 1)),oM 8 t18])))))
def zbt_q:IQ:=(.seq (rg 4 [oP 4 (.mv (vI 0))]) (.seq (.seq (rg 8 [oM 6 t0,oP 7 (.len t6),oP 8 (.mv (vI 0))]) (.block 0 (.cn [0,1,7,8] (.sub 0 zbt_b0)))) (.seq (rg 4 [oP 4 (.mv (.v (.int .i64 (-1))))]) (.cn [4] .ret))))
theorem zbt_chk:chk Tryd.prog 76 []=some (zbt_q.erase,[.tmp 4],19):=by kernel_rfl
def qDv (v:BA) (x7_ x8_:Int) (s:List BA):Option (Int ⊕ (Int ⊕ Unit)) :=
 bif decide (x8_<x7_) then (
  gd (0≤x8_∧x8_<s.length) <|
  gd ((Int.toNat x8_)<s.length) <|
  bif decide (v=(s.getD (Int.toNat x8_) (ET.dft .str))) then (
   some (.inr (.inl x8_)))
  else (
   gd (qAe (x8_+(1:Int))) <|
   some (.inl (x8_+(1:Int)))))
 else (
  some (.inr (.inr ())))
def zbt_p0 (v:BA) (x7_ x8_:Int) (s:List BA):Option (Int ⊕ Unit) :=
 qBg (fun x:Int=>qDv v x7_ x s) x8_
def zbt_s (s:(List BA)) (v:BA):Option Int :=
 (zbt_p0 v (s.length:Int) (0:Int) s).bind fun o1=>(Sum.elim (fun (o1_0:Int) =>
  some o1_0) (fun (o1_1:Unit) =>
  some (-1:Int))) o1
def zbt_G:Nat→Option CQ:=tblQ []
theorem zbt_Gok:∀f C,zbt_G f=some C→qAf Tryd.prog f C:=fun f C h=>by cases h
def zbt_d0:=(dQS (qAb (dSO 0 (dO 0)) (qAb (dSO 1 dS) (qAb (dSO 7 dZ) (qAb (dSO 8 dZ) dNil)))) (qAb (qCi .str) dNil))
def zbt_l0:SubQ:=mkL zbt_d0 (fun x=>zbt_p0 x.1.2.1 x.1.2.2.1 x.1.2.2.2.1 x.2.1) fun x r R kn kx kr=>(Sum.elim (fun (r_0:Int)=>kr ⟨[sL 4 (.vI r_0)],[],[.view .str x.2.1]⟩) (fun (r_1:Unit)=>kx 0 ⟨[],[],[.view .str x.2.1]⟩)) r
def zbt_L:Nat→SubQ:=tblL [(0,zbt_l0)]
theorem zbt_sub0:qCo zbt_L zbt_G 1 9 19 0 zbt_b0:=qA1 (show zbt_L 0=zbt_l0 from by kernel_rfl) fun x R kn kx kr=>qAz (step:=fun y=>qDv x.1.2.1 x.1.2.2.1 y x.2.1) (enc:=fun (y:Int)=>zbt_d0.e ((x.1.1,x.1.2.1,x.1.2.2.1,y,x.1.2.2.2.2),x.2)) (fun y=>by kernel_rfl) (fun y ki=>by simp only [qDv,-eq_self,qAd,qAh,obA,obS,slL,slR,qAc]; kernel_rfl) x.1.2.2.2.1
theorem zbt_subs:qAo zbt_L zbt_G 1 9 19 zbt_q:=qAl (show qAr zbt_L zbt_G 1 9 19 [(0,zbt_b0)] from ⟨zbt_sub0,tV⟩)
def zbt_da:=(qAb (dVC (dCO (dO 0))) (qAb (dVC (dCO dS)) dNil))
def zbt_db:=(qAb (qCi .str) dNil)
def zbt_c:CS:=mkC zbt_da zbt_db (fun x y=>zbt_s y.1 x.2.1) (fun x y r=>.c (.o (.vI r))) fun x y r=>[.view .str y.1]
theorem zbt_val:qAm Tryd.prog 76 zbt_c:=qAn zbt_chk 9 zbt_Gok 1 (fun x=>Nat.le_of_ble_eq_true rfl) (fun y=>rfl) zbt_subs fun x y=>by
 simp only [zbt_s,-eq_self,qAd,qAh,obA,obS,slL,slR,qAc];kernel_rfl
def zbt_w:CQ:=qCk [(0,none,some (.str,9))] (qDz [false] zbt_c)
theorem zbt_ok:qAf Tryd.prog 76 zbt_w:=qFx zbt_val
def zbs_q:IQ:=(.seq (rg 4 [oP 4 (.mv vF)]) (.seq (rg 4 [oM 5 t0,oM 6 t1,oP 7 (.call 76 [t5,t6]),oP 8 (.bi .geq t7 (vI 0)),oM 4 t8]) (.cn [4] .ret)))
theorem zbs_chk:chk Tryd.prog 52 []=some (zbs_q.erase,[.tmp 4],9):=by kernel_rfl
def zbs_s (s:(List BA)) (v:BA):Option Bool :=
 (zbt_s s v).bind fun r1 =>
 some (decide ((0:Int)≤r1))
def zbs_G:Nat→Option CQ:=tblQ [(76,zbt_w)]
theorem zbs_Gok:∀f C,zbs_G f=some C→qAf Tryd.prog f C:=qAj ⟨zbt_ok,tV⟩
def zbs_L:Nat→SubQ:=tblL []
theorem zbs_subs:qAo zbs_L zbs_G 1 5 9 zbs_q:=qAl (show qAr zbs_L zbs_G 1 5 9 [] from tV)
def zbs_da:=(qAb (dVC (dCO (dO 0))) (qAb (dVC (dCO dS)) dNil))
def zbs_db:=(qAb (qCi .str) dNil)
def zbs_c:CS:=mkC zbs_da zbs_db (fun x y=>zbs_s y.1 x.2.1) (fun x y r=>.c (.o (.vB r))) fun x y r=>[.view .str y.1]
theorem zbs_val:qAm Tryd.prog 52 zbs_c:=qAn zbs_chk 5 zbs_Gok 1 (fun x=>Nat.le_of_ble_eq_true rfl) (fun y=>rfl) zbs_subs fun x y=>by
 simp only [zbs_s,-eq_self,qAd,qAh,obA,obS,slL,slR,qAc];kernel_rfl
def zbs_w:CQ:=qCk [(0,none,some (.str,9))] (qDz [false] zbs_c)
theorem zbs_ok:qAf Tryd.prog 52 zbs_w:=qFx zbs_val
def zae_q:IQ:=(.seq (rg 4 [oP 2 (.box 31 9 t0),oP 3 (.box 24 4 t1),oP 4 (.mv (vI 0))]) (.seq (rg 5 [oP 6 (.faddr 0 t3),oP 7 (.load none t6),oP 8 (.call 18 [t7]),oM 5 t8]) (.seq (.block 0 (.seq (rg 9 [oM 10 t5,oP 11 (.bi .eql t10 (.v (.string ⟨#[]⟩))),oM 12 t11,oE 13 (.faddr 0 t2) 12,oE 14 (.load none t13) 12,oE 15 (.mv t5) 12,oE 16 (.call 52 [t14,t15]) 12,oE 17 (.un .not t16) 12,oP 18 (.pick t12 vT t17),oM 9 t18]) (.cond t9 (.seq (rg 4 [oP 4 (.mv (vI 112))]) (.cn [4] .ret)) (.seq (rg 19 [oP 20 (.faddr 6 t2),oP 21 (.load none t20),oM 22 t21,oF 23 (.faddr 3 t3) 22,oF 24 (.load none t23) 22,oF 25 (.un .not t24) 22,oF 26 (.mv t25) 22,oE 27 (.faddr 2 t3) 26,oE 28 (.load none t27) 26,oE 29 (.faddr 5 t2) 26,oE 30 (.load none t29) 26,oE 31 (.bi .neq t28 t30) 26,oF 32 (.pick t26 vT t31) 22,oP 33 (.pick t22 t32 vF),oM 19 t33]) (.cond t19 (.seq (rg 4 [oP 4 (.mv (vI 113))]) (.cn [4] .ret)) .skip))))) (.seq (rg 4 [oP 4 (.mv (vI 0))]) (.cn [4] .ret)))))
theorem zae_chk:chk Tryd.prog 17 []=some (zae_q.erase,[.tmp 4],34):=by kernel_rfl
def zae_s (p:qIf) (h:qH9):Option Int :=
 (qA4 h.alg).bind fun r1 =>
 bif decide (r1=(⟨#[]⟩:BA)) then (
  some (112:Int))
 else (
  (zbs_s p.algs r1).bind fun r2 =>
  bif (!r2) then (
   some (112:Int))
  else (
   bif (p.hasTyp && ((!h.hasTyp) || (!decide (h.typ=p.typ)))) then (
    some (113:Int))
   else (
    some (0:Int))))
def zae_G:Nat→Option CQ:=tblQ [(18,qFu),(52,zbs_w)]
theorem zae_Gok:∀f C,zae_G f=some C→qAf Tryd.prog f C:=qAj ⟨qHa,zbs_ok,tV⟩
def zae_L:Nat→SubQ:=tblL []
theorem zae_subs:qAo zae_L zae_G 2 6 34 zae_q:=qAl (show qAr zae_L zae_G 2 6 34 [] from tV)
def zDJW4:=(qAb (dO 0) (qAb dS (qAb dB (qAb dS (qAb dB (qAb dS (qAb dB (qAb dZ (qAb (dO 1) dNil)))))))))
def zae_da:=(qAb (dVC (dCA zDJW4)) (qAb (dVC (dCA zDJW1)) dNil))
def zae_db:=(qAb (qCi .str) (qAb (qCi .str) dNil))
def zae_c:CS:=mkC zae_da zae_db (fun x y=>zae_s (⟨y.1,x.1.2.1,x.1.2.2.1,x.1.2.2.2.1,x.1.2.2.2.2.1,x.1.2.2.2.2.2.1,x.1.2.2.2.2.2.2.1,x.1.2.2.2.2.2.2.2.1,y.2.1⟩:qIf) (⟨x.2.1.1,x.2.1.2.1,x.2.1.2.2.1,x.2.1.2.2.2.1⟩:qH9)) (fun x y r=>.c (.o (.vI r))) fun x y r=>[.view .str y.1,.view .str y.2.1]
theorem zae_val:qAm Tryd.prog 17 zae_c:=qAn zae_chk 6 zae_Gok 2 (fun x=>Nat.le_of_ble_eq_true rfl) (fun y=>rfl) zae_subs fun x y=>by
 simp only [zae_s,-eq_self,qAd,qAh,obA,obS,slL,slR,qAc];kernel_rfl
def zae_w:CQ:=qCk [(0,some 0,some (.str,9)),(0,some 8,some (.str,9))] (qDz [false,false] zae_c)
theorem zae_ok:qAf Tryd.prog 17 zae_w:=qFx zae_val
def zbr_q:IQ:=(.seq (rg 0 [oP 0 (.mv vF)]) (.seq (rg 2 [oP 9 (.call 14 [(.v (.string ⟨#[123,34,107,105,100,34,58,34,107,34,44,34,92,117,48,48,54,49,108,103,34,58,34,69,83,51,56,52,34,44,34,116,121,112,34,58,34,74,87,84,34,125]⟩))]),oM 8 t9,oP 10 (.extract t8 0),oP 11 (.extract t8 1),oP 1 (.alloc 24 [.int .i64 0,.string ⟨#[]⟩,.string ⟨#[]⟩,.bool false]),oN (.store 4 t1 t10),oM 2 t11]) (.seq (rg 4 [oP 13 (.load (some 4) t1),oP 14 (.call 19 [t13]),oM 12 t14,oP 15 (.extract t12 0),oP 16 (.extract t12 1),oM 3 t15,oM 4 t16]) (.seq (rg 6 [oP 18 (.call 14 [(.v (.string ⟨#[123,34,97,108,103,34,58,34,110,111,110,101,34,44,34,107,105,100,34,58,34,107,34,125]⟩))]),oM 17 t18,oP 19 (.extract t17 0),oP 20 (.extract t17 1),oP 5 (.alloc 24 [.int .i64 0,.string ⟨#[]⟩,.string ⟨#[]⟩,.bool false]),oN (.store 4 t5 t19),oM 6 t20]) (.seq (rg 7 [oP 21 (.bslice 9 1 2 [.string ⟨#[]⟩] [(0,(.v (.string ⟨#[110,111,110,101]⟩))),(1,(.v (.string ⟨#[69,83,51,56,52]⟩)))]),oP 22 (.build [.slice none 0 0,.string ⟨#[]⟩,.bool false,.string ⟨#[]⟩,.bool false,.string ⟨#[]⟩,.bool false,.int .i64 0,.slice none 0 0] [(0,1,t21),(6,1,vT),(5,1,(.v (.string ⟨#[74,87,84]⟩)))]),oP 23 (.load (some 4) t1),oP 24 (.call 17 [t22,t23]),oM 7 t24]) (.seq (rg 0 [oM 25 t2,oP 26 (.bi .eql t25 (vI 0)),oM 27 t26,oF 28 (.faddr 0 t1) 27,oF 29 (.load none t28) 27,oF 30 (.bi .eql t29 (vI 11)) 27,oP 31 (.pick t27 t30 vF),oM 32 t31,oF 33 (.faddr 1 t1) 32,oF 34 (.load none t33) 32,oF 35 (.bi .eql t34 (.v (.string ⟨#[107]⟩))) 32,oP 36 (.pick t32 t35 vF),oM 37 t36,oF 38 (.faddr 2 t1) 37,oF 39 (.load none t38) 37,oF 40 (.bi .eql t39 (.v (.string ⟨#[74,87,84]⟩))) 37,oP 41 (.pick t37 t40 vF),oM 42 t41,oF 43 (.faddr 3 t1) 42,oF 44 (.load none t43) 42,oP 45 (.pick t42 t44 vF),oM 46 t45,oF 47 (.mv t4) 46,oF 48 (.bi .eql t47 (vI 0)) 46,oP 49 (.pick t46 t48 vF),oM 50 t49,oF 51 (.mv t3) 50,oF 52 (.bi .eql t51 (.v (.string ⟨#[123,34,97,108,103,34,58,34,69,83,51,56,52,34,44,34,107,105,100,34,58,34,107,34,44,34,116,121,112,34,58,34,74,87,84,34,125]⟩))) 50,oP 53 (.pick t50 t52 vF),oM 54 t53,oF 55 (.mv t6) 54,oF 56 (.bi .eql t55 (vI 111)) 54,oP 57 (.pick t54 t56 vF),oM 58 t57,oF 59 (.mv t7) 58,oF 60 (.bi .eql t59 (vI 0)) 58,oP 61 (.pick t58 t60 vF),oM 62 t61,oF 63 (.build [.slice none 0 0,.string ⟨#[]⟩,.bool false,.string ⟨#[]⟩,.bool false,.string ⟨#[]⟩,.bool false,.int .i64 0,.slice none 0 0] []) 62,oF 64 (.load (some 4) t1) 62,oF 65 (.call 17 [t63,t64]) 62,oF 66 (.bi .eql t65 (vI 112)) 62,oP 67 (.pick t62 t66 vF),oM 0 t67]) (.cn [0] .ret)))))))
theorem zbr_chk:chk Tryd.prog 16 []=some (zbr_q.erase,[.tmp 0],68):=by kernel_rfl
def zbr_s:Option Bool :=
 (zaf_s (⟨#[123,34,107,105,100,34,58,34,107,34,44,34,92,117,48,48,54,49,108,103,34,58,34,69,83,51,56,52,34,44,34,116,121,112,34,58,34,74,87,84,34,125]⟩:BA)).bind fun r1 =>
 (zag_s r1.1).bind fun r2 =>
 (zaf_s (⟨#[123,34,97,108,103,34,58,34,110,111,110,101,34,44,34,107,105,100,34,58,34,107,34,125]⟩:BA)).bind fun r3 =>
 (zae_s (⟨[(⟨#[110,111,110,101]⟩:BA),(⟨#[69,83,51,56,52]⟩:BA)],(⟨#[]⟩:BA),false,(⟨#[]⟩:BA),false,(⟨#[74,87,84]⟩:BA),true,(0:Int),[]⟩:qIf) r1.1).bind fun r4 =>
 bif (((((((((decide (r1.2=(0:Int))) && (decide (r1.1.alg=(11:Int)))) && (decide (r1.1.kid=(⟨#[107]⟩:BA)))) && (decide (r1.1.typ=(⟨#[74,87,84]⟩:BA)))) && r1.1.hasTyp) && (decide (r2.2=(0:Int)))) && (decide (r2.1=(⟨#[123,34,97,108,103,34,58,34,69,83,51,56,52,34,44,34,107,105,100,34,58,34,107,34,44,34,116,121,112,34,58,34,74,87,84,34,125]⟩:BA)))) && (decide (r3.2=(111:Int)))) && (decide (r4=(0:Int)))) then (
  (zae_s (⟨[],(⟨#[]⟩:BA),false,(⟨#[]⟩:BA),false,(⟨#[]⟩:BA),false,(0:Int),[]⟩:qIf) r1.1).bind fun r5 =>
  some (decide (r5=(112:Int))))
 else (
  some false)
def zbr_G:Nat→Option CQ:=tblQ [(14,zaf_w),(19,zag_w),(17,zae_w)]
theorem zbr_Gok:∀f C,zbr_G f=some C→qAf Tryd.prog f C:=qAj ⟨zaf_ok,zag_ok,zae_ok,tV⟩
def zbr_L:Nat→SubQ:=tblL []
theorem zbr_subs:qAo zbr_L zbr_G 0 8 68 zbr_q:=qAl (show qAr zbr_L zbr_G 0 8 68 [] from tV)
def zbr_da:=(dNil:Dec Unit (List SV))
def zbr_db:=(dNil:Dec Unit (List SB))
def zbr_c:CS:=mkC zbr_da zbr_db (fun x y=>zbr_s) (fun x y r=>.c (.o (.vB r))) fun x y r=>[]
theorem zbr_val:qAm Tryd.prog 16 zbr_c:=qAn zbr_chk 8 zbr_Gok 0 (fun x=>Nat.le_of_ble_eq_true rfl) (fun y=>rfl) zbr_subs fun x y=>by
 simp only [zbr_s,-eq_self,qAd,qAh,obA,obS,slL,slR,qAc];kernel_rfl
def zbr_w:CQ:=qDz [] zbr_c
theorem zbr_ok:qAf Tryd.prog 16 zbr_w:=qAt zbr_val
def zbq_b0:IQ:=(.loop [1,3,4,6,9,10,11] (.seq (.seq (rg 25 [oM 21 t11,oP 22 (.faddr 0 t4),oP 23 (.load none t22),oP 24 (.len t23),oP 25 (.bi .lss t21 t24)]) (.cond t25 .skip (.cn [1,3,4,6,9,10] (.exit 0)))) (.seq (.block 1 (.seq (.reg 36 (some [0,1,2,3,4,5,6,7,8]) [oP 28 (.faddr 0 t4),oP 29 (.load none t28),oM 30 t11,oP 31 (.iaddr 1 t29 t30),oP 32 (.load none t31),oP 33 (.faddr 0 t6),oP 34 (.load none t33),oP 35 (.call 18 [t34]),oP 36 (.bi .eql t32 t35)]) (.cond t36 (rg 10 [oP 10 (.mv vT)]) .skip))) (rg 11 [oM 26 t11,oP 27 (.bi .add t26 (vI 1)),oM 11 t27]))))
def zbq_q:IQ:=(.seq (rg 8 [oP 4 (.box 31 9 t0),oP 6 (.box 24 4 t2),oP 8 (.mv vF)]) (.seq (.seq (rg 17 [oP 16 (.call 16 []),oP 17 (.un .not t16)]) (.cond t17 (.seq (rg 8 [oP 8 (.mv vF)]) (.cn [8] .ret)) .skip)) (.seq (rg 9 [oP 18 (.load (some 9) t4),oP 19 (.load (some 4) t6),oP 20 (.call 17 [t18,t19]),oM 9 t20]) (.seq (rg 10 [oP 10 (.mv vF)]) (.seq (.seq (rg 11 [oP 11 (.mv (vI 0))]) (.block 0 (.cn [1,3,4,6,9,10,11] (.sub 0 zbq_b0)))) (.seq (.seq (rg 47 [oP 37 (.faddr 0 t6),oP 38 (.load none t37),oP 39 (.call 18 [t38]),oP 40 (.bi .eql t39 (.v (.string ⟨#[]⟩))),oM 41 t40,oE 42 (.mv t10) 41,oE 43 (.un .not t42) 41,oP 44 (.pick t41 vT t43),oM 45 t9,oP 46 (.bi .eql t45 (vI 112)),oP 47 (.beq true t44 t46)]) (.cond t47 (.seq (rg 8 [oP 8 (.mv vF)]) (.cn [8] .ret)) .skip)) (.seq (rg 0 [oP 48 (.load (some 9) t4),oP 12 (.alloc 31 [.slice none 0 0,.string ⟨#[]⟩,.bool false,.string ⟨#[]⟩,.bool false,.string ⟨#[]⟩,.bool false,.int .i64 0,.slice none 0 0]),oN (.store 9 t12 t48)]) (.seq (rg 0 [oP 49 (.faddr 0 t12),oN (.store 1 t49 (.v (.slice none 0 0)))]) (.seq (rg 0 [oP 50 (.faddr 0 t12),oP 51 (.load none t50),oM 52 t3,oP 53 (.bslice 9 1 1 [.string ⟨#[]⟩] [(0,t52)]),oP 54 (.append 9 1 16 [.string ⟨#[]⟩] t51 t53),oP 55 (.faddr 0 t12),oN (.store 1 t55 t54)]) (.seq (rg 0 [oP 56 (.faddr 0 t12),oP 57 (.load none t56),oP 58 (.faddr 0 t4),oP 59 (.load none t58),oP 60 (.append 9 1 16 [.string ⟨#[]⟩] t57 t59),oP 61 (.faddr 0 t12),oN (.store 1 t61 t60)]) (.seq (rg 13 [oP 62 (.load (some 9) t12),oP 63 (.load (some 4) t6),oP 64 (.call 17 [t62,t63]),oM 13 t64]) (.seq (.seq (rg 71 [oM 65 t9,oP 66 (.bi .neq t65 (vI 112)),oM 67 t66,oF 68 (.mv t13) 67,oF 69 (.mv t9) 67,oF 70 (.bi .neq t68 t69) 67,oP 71 (.pick t67 t70 vF)]) (.cond t71 (.seq (rg 8 [oP 8 (.mv vF)]) (.cn [8] .ret)) .skip)) (.seq (rg 15 [oM 73 t1,oP 74 (.call 14 [t73]),oM 72 t74,oP 75 (.extract t72 0),oP 76 (.extract t72 1),oP 14 (.alloc 24 [.int .i64 0,.string ⟨#[]⟩,.string ⟨#[]⟩,.bool false]),oN (.store 4 t14 t75),oM 15 t76]) (.seq (.reg 8 (some [0,1,2,3,4,5,6,7,8,9,10,11,12,13,17,14,15,16,18,19,20,21,22]) [oM 77 t15,oP 78 (.bi .neq t77 (vI 0)),oM 79 t78,oE 80 (.faddr 0 t14) 79,oE 81 (.load none t80) 79,oE 82 (.bi .geq t81 (vI 1)) 79,oE 83 (.mv t82) 79,oF 84 (.faddr 0 t14) 83,oF 85 (.load none t84) 83,oF 86 (.bi .leq t85 (vI 12)) 83,oE 87 (.pick t83 t86 vF) 79,oE 88 (.mv t87) 79,oF 89 (.faddr 0 t14) 88,oF 90 (.load none t89) 88,oF 94 (.load (some 4) t14) 88,oF 91 (.call 18 [t90]) 88,oF 92 (.bslice 9 1 1 [.string ⟨#[]⟩] [(0,t91)]) 88,oF 93 (.build [.slice none 0 0,.string ⟨#[]⟩,.bool false,.string ⟨#[]⟩,.bool false,.string ⟨#[]⟩,.bool false,.int .i64 0,.slice none 0 0] [(0,1,t92)]) 88,oF 95 (.call 17 [t93,t94]) 88,oF 96 (.bi .eql t95 (vI 0)) 88,oE 97 (.pick t88 t96 vF) 79,oP 98 (.pick t79 vT t97),oM 8 t98]) (.cn [8] .ret)))))))))))))))
theorem zbq_chk:chk Tryd.prog 4 []=some (zbq_q.erase,[.tmp 8],99):=by kernel_rfl
def qEu (listed:Bool) (i:Int) (p_algs:List BA) (qIv:Int):Option ((Bool × Int) ⊕ Bool) :=
 bif decide (i<(p_algs.length:Int)) then (
  gd (0≤i∧i<p_algs.length) <|
  gd ((Int.toNat i)<p_algs.length) <|
  (qA4 qIv).bind fun r9 =>
  bif decide ((p_algs.getD (Int.toNat i) (ET.dft .str))=r9) then (
   gd (qAe (i+(1:Int))) <|
   some (.inl (true,(i+(1:Int)))))
  else (
   gd (qAe (i+(1:Int))) <|
   some (.inl (listed,(i+(1:Int))))))
 else (
  some (.inr listed))
def zbq_p0 (listed:Bool) (i:Int) (p_algs:List BA) (qIv:Int):Option Bool :=
 qBg (fun x:(Bool × Int)=>qEu x.1 x.2 p_algs qIv) (listed,i)
def zbq_s (p:qIf) (text:BA) (h:qH9) (more:BA):Option Bool :=
 (zbr_s).bind fun r7 =>
 bif (!r7) then (
  some false)
 else (
  (zae_s p h).bind fun r8 =>
  (zbq_p0 false (0:Int) p.algs h.alg).bind fun o10 =>
  (qA4 h.alg).bind fun r11 =>
  bif (!(((decide (r11=(⟨#[]⟩:BA))) || (!o10)) == (decide (r8=(112:Int))))) then (
   some false)
  else (
   gd (([more]:List BA).length≤9223372036854775807∧([more]:List BA).length*16≤140737488355328) <|
   gd (([more]:List BA).length+p.algs.length≤9223372036854775807∧(([more]:List BA).length+p.algs.length)*16≤140737488355328) <|
   (zae_s {p with algs:=([more]++p.algs):qIf} h).bind fun r12 =>
   bif ((!decide (r8=(112:Int))) && (!decide (r12=r8))) then (
    some false)
   else (
    (zaf_s text).bind fun r13 =>
    (qA4 r13.1.alg).bind fun r14 =>
    bif (((decide ((1:Int)≤r13.1.alg)) && (decide (r13.1.alg≤(12:Int)))) && (!(!decide (r13.2=(0:Int))))) then (
     (zae_s (⟨[r14],(⟨#[]⟩:BA),false,(⟨#[]⟩:BA),false,(⟨#[]⟩:BA),false,(0:Int),[]⟩:qIf) r13.1).bind fun r15 =>
     some ((!decide (r13.2=(0:Int))) || (((decide ((1:Int)≤r13.1.alg)) && (decide (r13.1.alg≤(12:Int)))) && (decide (r15=(0:Int))))))
    else (
     some ((!decide (r13.2=(0:Int))) || (((decide ((1:Int)≤r13.1.alg)) && (decide (r13.1.alg≤(12:Int)))) && false))))))
def zbq_G:Nat→Option CQ:=tblQ [(16,zbr_w),(17,zae_w),(18,qFu),(14,zaf_w)]
theorem zbq_Gok:∀f C,zbq_G f=some C→qAf Tryd.prog f C:=qAj ⟨zbr_ok,zae_ok,qHa,zaf_ok,tV⟩
def zbq_d0:=(dQS (qAb (dSO 1 dS) (qAb (dSO 3 dS) (qAb (dSO 4 (dH 2 0)) (qAb (dSO 6 (dH 3 0)) (qAb (dSO 9 dZ) (qAb (dSO 10 dB) (qAb (dSO 11 dZ) dNil))))))) (qAb (qCi .str) (qAb (qCi .str) (qAb (qF9 31 zDJW4) (qAb (qF9 24 zDJW1) dNil)))))
def zbq_l0:SubQ:=mkL zbq_d0 (fun x=>zbq_p0 x.1.2.2.2.2.2.1 x.1.2.2.2.2.2.2.1 x.2.1 x.2.2.2.2.1.1) fun x r R kn kx kr=>kx 0 ⟨[sL 1 (.vS x.1.1),sL 3 (.vS x.1.2.1),sL 4 (.hd 2 0),sL 6 (.hd 3 0),sL 9 (.vI x.1.2.2.2.2.1),sL 10 (.vB r)],[],[.view .str x.2.1,.view .str x.2.2.1,.cells 31 [.own 0,.vS x.2.2.2.1.2.1,.vB x.2.2.2.1.2.2.1,.vS x.2.2.2.1.2.2.2.1,.vB x.2.2.2.1.2.2.2.2.1,.vS x.2.2.2.1.2.2.2.2.2.1,.vB x.2.2.2.1.2.2.2.2.2.2.1,.vI x.2.2.2.1.2.2.2.2.2.2.2.1,.own 1],.cells 24 [.vI x.2.2.2.2.1.1,.vS x.2.2.2.2.1.2.1,.vS x.2.2.2.2.1.2.2.1,.vB x.2.2.2.2.1.2.2.2.1]]⟩
def zbq_L:Nat→SubQ:=tblL [(0,zbq_l0)]
theorem zbq_sub0:qCo zbq_L zbq_G 2 16 99 0 zbq_b0:=qA1 (show zbq_L 0=zbq_l0 from by kernel_rfl) fun x R kn kx kr=>qAz (step:=fun y=>qEu y.1 y.2 x.2.1 x.2.2.2.2.1.1) (enc:=fun (y:Bool × Int)=>zbq_d0.e ((x.1.1,x.1.2.1,x.1.2.2.1,x.1.2.2.2.1,x.1.2.2.2.2.1,y.1,y.2,x.1.2.2.2.2.2.2.2),x.2)) (fun y=>by kernel_rfl) (fun y ki=>by simp only [qEu,-eq_self,qAd,qAh,obA,obS,slL,slR,qAc]; kernel_rfl) (x.1.2.2.2.2.2.1,x.1.2.2.2.2.2.2.1)
theorem zbq_subs:qAo zbq_L zbq_G 2 16 99 zbq_q:=qAl (show qAr zbq_L zbq_G 2 16 99 [(0,zbq_b0)] from ⟨zbq_sub0,tV⟩)
def zbq_da:=(qAb (dVC (dCA zDJW4)) (qAb (dVC (dCO dS)) (qAb (dVC (dCA zDJW1)) (qAb (dVC (dCO dS)) dNil))))
def zbq_db:=(qAb (qCi .str) (qAb (qCi .str) dNil))
def zbq_c:CS:=mkC zbq_da zbq_db (fun x y=>zbq_s (⟨y.1,x.1.2.1,x.1.2.2.1,x.1.2.2.2.1,x.1.2.2.2.2.1,x.1.2.2.2.2.2.1,x.1.2.2.2.2.2.2.1,x.1.2.2.2.2.2.2.2.1,y.2.1⟩:qIf) x.2.1 (⟨x.2.2.1.1,x.2.2.1.2.1,x.2.2.1.2.2.1,x.2.2.1.2.2.2.1⟩:qH9) x.2.2.2.1) (fun x y r=>.c (.o (.vB r))) fun x y r=>[.view .str y.1,.view .str y.2.1]
theorem zbq_val:qAm Tryd.prog 4 zbq_c:=qAn zbq_chk 16 zbq_Gok 2 (fun x=>Nat.le_of_ble_eq_true rfl) (fun y=>rfl) zbq_subs fun x y=>by
 simp only [zbq_s,-eq_self,qAd,qAh,obA,obS,slL,slR,qAc];kernel_rfl
end
end Go.Proofs.YticplgndjpljiaaDoor
