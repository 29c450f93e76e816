/-
  Functions as the engine reads them (printed by gen.py).
-/
import Derived.Shelf.Unicode.ValidAny
import Derived.Shelf.Unicode.DecodeAny
import Derived.Shelf.Lay
import Derived.Ground.NamesProg
import Derived.Test.YticplgndjpljiaaDoorEngO
import Derived.Test.YticplgndjpljiaaDoorPWhole
import Derived.Test.YticplgndjpljiaaDoorProg
import Derived.Test.YticplgndjpljiaaDoorGC
import Derived.Test.YticplgndjpljiaaDoorPShaped
namespace Go.Proofs
open Go.Shelf
shelf_lay Lays.n196 Nm 196 at Tryd as Tryd.laysValid
shelf_lay Lays.n197 Nm 197 at Tryd as Tryd.laysDecode
end Go.Proofs
namespace Go.Proofs.YticplgndjpljiaaDoor
open Go.Eng
set_option linter.unusedVariables false
set_option linter.unusedSimpArgs false
theorem stays_below {w w':World} (h:Go.RowKit.Below w.heap.size w w'):Stays (fun _=>False) w w':=⟨h.os,h.output,h.size,fun k hk _=>h.block k hk⟩
theorem qHi {α β γ:Type} {A:Dec α (List SV)} {B:Dec β (List SB)} (f:α→Option γ) (v:γ→SV) (args:List SV) (hp:List SB) (R:Type) (k:SV→List SB→Option R) :
  ((Dec.d A args).bind fun x=>(Dec.d B hp).bind fun y=>(f x).bind fun r=>k (v r) [])=(((Dec.d A args).bind fun x=>(Dec.d B hp).bind fun y=>(f x).bind fun r=>some (v r,([]:List SB))):Option (SV × List SB)).bind fun z=>k z.1 z.2:=by
 cases Dec.d A args with
 | none=>rfl
 | some x =>
  cases Dec.d B hp with
  | none=>rfl
  | some y=>simp only [obS,Option.bind_assoc]
def utf8_da:=(qAb (dVC (dCO dS)) dNil)
def utf8_db:=(dNil:Dec Unit (List SB))
noncomputable def qAs (s:BA):Option Bool:=gd (s.size≤9223372036854775807) (some (Lib.validD s.data.toList))
noncomputable def qGu:CS:=fun args hp R k=>(Dec.d utf8_da args).bind fun x=>(Dec.d utf8_db hp).bind fun y=>(qAs x.1).bind fun r=>k (.c (.o (.val (.bool r)))) []
theorem utf8_ValidString_val:qAm Tryd.prog 53 qGu:=by
 refine ⟨fun args hp R k=>qHi (A:=utf8_da) (B:=utf8_db) (fun x=>qAs x.1) (fun r=>.c (.o (.val (.bool r)))) args hp R k,fun args hp v hp' hC hlt X w ρ hhp=>?_⟩;obtain ⟨x,h1,h2⟩:=Option.bind_eq_some_iff.1 hC;obtain ⟨y,h3,h4⟩:=Option.bind_eq_some_iff.1 h2;obtain ⟨r,h5,h6⟩:=Option.bind_eq_some_iff.1 h4;obtain ⟨hi,h7⟩:=gd_some.1 h5;rw [Dec.ok _ _ _ h1];have hhp':=Dec.ok _ _ _ h3;obtain ⟨s,u⟩:=x;simp only [snJ,Prod.mk.injEq] at h6 h7;obtain ⟨rfl,rfl⟩:=h6;simp only at hi;subst h7;rw [hhp'] at hhp ⊢;refine (Any.utf8_ValidString Tryd.laysValid s w hi hhp.tab.1).mono ?_;rintro e w' ⟨rfl,hb⟩
 obtain ⟨g1,g2⟩:=hhp.past ⟨rfl,rfl,Nat.le_refl _,fun k _ _=>rfl⟩ (stays_below hb);exact ⟨ρ,fun _ _=>rfl,Nat.le_refl _,rfl,trivial,g1,g2⟩
noncomputable def qC1:CQ:=qDz [] qGu
theorem qDu:qAf Tryd.prog 53 qC1:=qAt utf8_ValidString_val
noncomputable def qBi (s:BA):Option (Int × Int):=some (((Lib.decodeGo s).1:Int),((Lib.decodeGo s).2:Int))
noncomputable def qDj:CS:=fun args hp R k=>(Dec.d utf8_da args).bind fun x=>(Dec.d utf8_db hp).bind fun y=>(qBi x.1).bind fun r=>k (.tup [.o (.val (.int .i32 r.1)),.o (.val (.int .i64 r.2))]) []
theorem qF6:qAm Tryd.prog 130 qDj:=by
 refine ⟨fun args hp R k=>qHi (A:=utf8_da) (B:=utf8_db) (fun x=>qBi x.1) (fun r=>.tup [.o (.val (.int .i32 r.1)),.o (.val (.int .i64 r.2))]) args hp R k,fun args hp v hp' hC hlt X w ρ hhp=>?_⟩;obtain ⟨x,h1,h2⟩:=Option.bind_eq_some_iff.1 hC;obtain ⟨y,h3,h4⟩:=Option.bind_eq_some_iff.1 h2;obtain ⟨r,h5,h6⟩:=Option.bind_eq_some_iff.1 h4;rw [Dec.ok _ _ _ h1];have hhp':=Dec.ok _ _ _ h3;obtain ⟨s,u⟩:=x;simp only [qBi,snJ,Prod.mk.injEq] at h6 h5;obtain ⟨rfl,rfl⟩:=h6;subst h5;rw [hhp'] at hhp ⊢;refine (Any.utf8_DecodeRuneInString Tryd.laysDecode s w hhp.tab.1).mono ?_;rintro e w' ⟨rfl,hb⟩
 obtain ⟨g1,g2⟩:=hhp.past ⟨rfl,rfl,Nat.le_refl _,fun k _ _=>rfl⟩ (stays_below hb);exact ⟨ρ,fun _ _=>rfl,Nat.le_refl _,rfl,fun c hc=>by simp only [List.mem_cons,List.not_mem_nil,or_false] at hc; rcases hc with rfl | rfl <;> trivial,g1,g2⟩
noncomputable def qDq:CQ:=qDz [] qDj
theorem qGo:qAf Tryd.prog 130 qDq:=qAt qF6
noncomputable def qB3 (s:BA):Option Bool:=gd (s.size≤9223372036854775807) (some (fullS s))
noncomputable def qEg:CS:=fun args hp R k=>(Dec.d utf8_da args).bind fun x=>(Dec.d utf8_db hp).bind fun y=>(qB3 x.1).bind fun r=>k (.c (.o (.val (.bool r)))) []
theorem qG8:qAm Tryd.prog 131 qEg:=by
 refine ⟨fun args hp R k=>qHi (A:=utf8_da) (B:=utf8_db) (fun x=>qB3 x.1) (fun r=>.c (.o (.val (.bool r)))) args hp R k,fun args hp v hp' hC hlt X w ρ hhp=>?_⟩;obtain ⟨x,h1,h2⟩:=Option.bind_eq_some_iff.1 hC;obtain ⟨y,h3,h4⟩:=Option.bind_eq_some_iff.1 h2;obtain ⟨r,h5,h6⟩:=Option.bind_eq_some_iff.1 h4;obtain ⟨hi,h7⟩:=gd_some.1 h5;rw [Dec.ok _ _ _ h1];have hhp':=Dec.ok _ _ _ h3;obtain ⟨s,u⟩:=x;simp only [snJ,Prod.mk.injEq] at h6 h7;obtain ⟨rfl,rfl⟩:=h6;simp only at hi;subst h7;rw [hhp'] at hhp ⊢;refine (full_run s w hi hhp.tab.1).mono ?_;rintro e w' ⟨rfl,hb⟩
 obtain ⟨g1,g2⟩:=hhp.past ⟨rfl,rfl,Nat.le_refl _,fun k _ _=>rfl⟩ (stays_below hb);exact ⟨ρ,fun _ _=>rfl,Nat.le_refl _,rfl,trivial,g1,g2⟩
noncomputable def qEf:CQ:=qDz [] qEg
theorem qHx:qAf Tryd.prog 131 qEf:=qAt qG8
end Go.Proofs.YticplgndjpljiaaDoor
namespace Go.Proofs.YticplgndjpljiaaDoor
open Go.Eng
set_option linter.unusedVariables false
set_option linter.unusedSimpArgs false
set_option maxRecDepth 100000
noncomputable section
def zat_q:IQ:=(.seq (rg 2 [oP 1 (.box 46 6 t0),oP 2 (.mv vF)]) (.seq (.block 0 (.seq (rg 5 [oP 6 (.faddr 0 t1),oP 7 (.load none t6),oP 8 (.bi .lss t7 (vI 1)),oM 9 t8,oE 10 (.faddr 0 t1) 9,oE 11 (.load none t10) 9,oE 12 (.bi .gtr t11 (vI 7)) 9,oP 13 (.pick t9 vT t12),oM 14 t13,oE 15 (.faddr 5 t1) 14,oE 16 (.load none t15) 14,oE 17 (.bi .lss t16 (vI 0)) 14,oP 18 (.pick t14 vT t17),oM 19 t18,oE 20 (.faddr 5 t1) 19,oE 21 (.load none t20) 19,oE 22 (.bi .gtr t21 (vI 0)) 19,oE 23 (.mv t22) 19,oF 24 (.faddr 0 t1) 23,oF 25 (.load none t24) 23,oF 26 (.bi .neq t25 (vI 6)) 23,oE 27 (.pick t23 t26 vF) 19,oE 28 (.mv t27) 19,oF 29 (.faddr 0 t1) 28,oF 30 (.load none t29) 28,oF 31 (.bi .neq t30 (vI 7)) 28,oE 32 (.pick t28 t31 vF) 19,oP 33 (.pick t19 vT t32),oM 5 t33]) (.cond t5 (.seq (rg 2 [oP 2 (.mv vF)]) (.cn [2] .ret)) (.seq (rg 34 [oP 35 (.faddr 0 t1),oP 36 (.load none t35),oP 37 (.bi .eql t36 (vI 4)),oM 34 t37]) (.cond t34 (.seq (rg 4 [oP 39 (.faddr 2 t1),oP 40 (.load none t39),oP 41 (.call 110 [t40]),oM 38 t41,oP 42 (.extract t38 0),oP 43 (.extract t38 1),oM 3 t42,oM 4 t43]) (.seq (rg 2 [oP 44 (.faddr 2 t1),oP 45 (.load none t44),oP 46 (.call 111 [t45]),oM 47 t46,oF 48 (.faddr 3 t1) 47,oF 49 (.load none t48) 47,oF 50 (.mv t4) 47,oF 51 (.beq false t49 t50) 47,oP 52 (.pick t47 t51 vF),oM 53 t52,oF 54 (.faddr 4 t1) 53,oF 55 (.load none t54) 53,oF 56 (.mv t3) 53,oF 57 (.bi .eql t55 t56) 53,oP 58 (.pick t53 t57 vF),oM 2 t58]) (.cn [2] .ret))) (.seq (rg 59 [oP 60 (.faddr 3 t1),oP 61 (.load none t60),oM 62 t61,oE 63 (.faddr 4 t1) 62,oE 64 (.load none t63) 62,oE 65 (.bi .neq t64 (vI 0)) 62,oP 66 (.pick t62 vT t65),oM 59 t66]) (.cond t59 (.seq (rg 2 [oP 2 (.mv vF)]) (.cn [2] .ret)) (.seq (rg 67 [oP 68 (.faddr 0 t1),oP 69 (.load none t68),oP 70 (.bi .eql t69 (vI 5)),oM 67 t70]) (.cond t67 (.seq (rg 2 [oP 71 (.faddr 2 t1),oP 72 (.load none t71),oP 73 (.call 53 [t72]),oM 2 t73]) (.cn [2] .ret)) .skip))))))))) (.seq (rg 2 [oP 74 (.faddr 2 t1),oP 75 (.load none t74),oP 76 (.bi .eql t75 (.v (.string ⟨#[]⟩))),oM 2 t76]) (.cn [2] .ret))))
theorem zat_chk:chk Tryd.prog 89 []=some (zat_q.erase,[.tmp 2],77):=by kernel_rfl
def zat_s (n:Eng.Node):Option Bool :=
 bif ((((decide (n.kind<(1:Int))) || (decide ((7:Int)<n.kind))) || (decide (n.kids<(0:Int)))) || (((decide ((0:Int)<n.kids)) && (!decide (n.kind=(6:Int)))) && (!decide (n.kind=(7:Int))))) then (
  some false)
 else (
  bif decide (n.kind=(4:Int)) then (
   (zab_s n.text).bind fun r1 =>
   (zaa_s n.text).bind fun r2 =>
   some ((r2 && (n.whole == r1.2)) && (decide (n.int=r1.1))))
  else (
   bif (n.whole || (!decide (n.int=(0:Int)))) then (
    some false)
   else (
    bif decide (n.kind=(5:Int)) then (
     (qAs n.text).bind fun r3 =>
     some r3)
    else (
     some (decide (n.text=(⟨#[]⟩:BA)))))))
def zat_G:Nat→Option CQ:=tblQ [(110,zab_w),(111,zaa_w),(53,qC1)]
theorem zat_Gok:∀f C,zat_G f=some C→qAf Tryd.prog f C:=qAj ⟨zab_ok,zaa_ok,qDu,tV⟩
def zat_L:Nat→SubQ:=tblL []
theorem zat_subs:qAo zat_L zat_G 0 5 77 zat_q:=qAl (show qAr zat_L zat_G 0 5 77 [] from tV)
def zat_da:=(qAb (dVC (dCA (qAb dZ (qAb dS (qAb dS (qAb dB (qAb dZ (qAb dZ dNil)))))))) dNil)
def zat_db:=(dNil:Dec Unit (List SB))
def zat_c:CS:=mkC zat_da zat_db (fun x y=>zat_s (⟨x.1.1,x.1.2.1,x.1.2.2.1,x.1.2.2.2.1,x.1.2.2.2.2.1,x.1.2.2.2.2.2.1⟩:Eng.Node)) (fun x y r=>.c (.o (.vB r))) fun x y r=>[]
theorem zat_val:qAm Tryd.prog 89 zat_c:=qAn zat_chk 5 zat_Gok 0 (fun x=>Nat.le_of_ble_eq_true rfl) (fun y=>rfl) zat_subs fun x y=>by
 simp only [zat_s,-eq_self,qAd,qAh,obA,obS,slL,slR,qAc];kernel_rfl
def zat_w:CQ:=qDz [] zat_c
theorem zat_ok:qAf Tryd.prog 89 zat_w:=qAt zat_val
def zar_b3:IQ:=(.loop [3,10,11,12] (.seq (.seq (rg 110 [oM 98 t3,oP 99 (.len t98),oP 100 (.bi .gtr t99 (vI 0)),oM 101 t100,oF 102 (.mv t3) 101,oF 103 (.mv t3) 101,oF 104 (.len t103) 101,oF 105 (.bi .sub t104 (vI 1)) 101,oF 106 (.iaddr 2 t102 t105) 101,oF 107 (.faddr 0 t106) 101,oF 108 (.load none t107) 101,oF 109 (.bi .eql t108 (vI 0)) 101,oP 110 (.pick t101 t109 vF)]) (.cond t110 .skip (.cn [3,10,11,12] (.exit 3)))) (.block 4 (rg 3 [oM 111 t3,oM 112 t3,oP 113 (.len t112),oP 114 (.bi .sub t113 (vI 1)),oP 115 (.sub (some 2) t111 none (some t114)),oM 3 t115]))))
def zar_b2:IQ:=(.join [] [3,10,11,12] (.block 3 (.cn [3,10,11,12] (.sub 3 zar_b3))))
def zar_b1:IQ:=(.join [] [3,10,11,12] (.seq (.seq (rg 82 [oP 75 (.faddr 0 t5),oP 76 (.load none t75),oP 77 (.bi .eql t76 (vI 6)),oM 78 t77,oE 79 (.faddr 0 t5) 78,oE 80 (.load none t79) 78,oE 81 (.bi .eql t80 (vI 7)) 78,oP 82 (.pick t78 vT t81)]) (.cond t82 (.seq (.seq (rg 85 [oM 83 t3,oP 84 (.len t83),oP 85 (.bi .gtr t84 (vI 32))]) (.cond t85 (.seq (rg 2 [oP 2 (.mv vF)]) (.cn [2] .ret)) .skip)) (.seq (rg 0 [oP 86 (.faddr 5 t5),oP 87 (.load none t86),oP 88 (.build [.int .i64 0,.map none] [(0,1,t87)]),oP 7 (.alloc 139 [.int .i64 0,.map none]),oN (.store 2 t7 t88)]) (.seq (.seq (rg 91 [oP 89 (.faddr 0 t5),oP 90 (.load none t89),oP 91 (.bi .eql t90 (vI 7))]) (.cond t91 (rg 0 [oP 92 (.ext .mkmap []),oP 93 (.faddr 1 t7),oN (.store 1 t93 t92)]) .skip)) (rg 3 [oM 94 t3,oP 95 (.load (some 2) t7),oP 96 (.bslice 139 2 1 [.int .i64 0,.map none] [(0,t95)]),oP 97 (.append 139 2 16 [.int .i64 0,.map none] t94 t96),oM 3 t97])))) .skip)) (.cn [3,10,11,12] (.sub 2 zar_b2))))
def zar_b0:IQ:=(.loop [3,10,11,12] (.seq (rg 13 [oP 13 (.bi .lss t12 t11)]) (.seq (.cond t13 .skip (.cn [3] (.exit 0))) (.seq (.block 1 (.seq (rg 0 [oP 14 (.iaddr 6 t10 t12),oP 15 (.load (some 6) t14),oP 5 (.alloc 46 [.int .i64 0,.string ⟨#[]⟩,.string ⟨#[]⟩,.bool false,.int .i64 0,.int .i64 0]),oN (.store 6 t5 t15)]) (.seq (.seq (rg 23 [oM 16 t3,oP 17 (.len t16),oP 18 (.bi .eql t17 (vI 0)),oM 19 t18,oE 20 (.load (some 6) t5) 19,oE 21 (.call 89 [t20]) 19,oE 22 (.un .not t21) 19,oP 23 (.pick t19 vT t22)]) (.cond t23 (.seq (rg 2 [oP 2 (.mv vF)]) (.cn [2] .ret)) .skip)) (.seq (rg 6 [oM 24 t3,oM 25 t3,oP 26 (.len t25),oP 27 (.bi .sub t26 (vI 1)),oP 28 (.iaddr 2 t24 t27),oM 6 t28]) (.seq (rg 0 (rF 29 t6 0++[oP 33 (.bi .sub t32 (vI 1))]++rS 34 t29 0 t33)) (.seq (.block 2 (.seq (.reg 36 (some [0,1,2,3,4,5,6,7,8,9,10,11,12,13,14,15,16,17,18,19,20,21,22,23,24,25,26]) (rF 37 t6 1++[oP 41 (.ext (.mnil false) [t40]),oM 42 t41,oF 43 (.faddr 1 t5) 42,oF 44 (.load none t43) 42,oF 45 (.bi .neq t44 (.v (.string ⟨#[]⟩))) 42,oP 46 (.pick t42 t45 vF),oM 47 t46]++rH oE 48 t6 1 47++[oE 52 (.faddr 1 t5) 47,oE 53 (.load none t52) 47,oE 54 (.ext .mget [t51,t53]) 47,oE 55 (.bi .gtr t54 (vI 0)) 47,oP 56 (.pick t47 vT t55),oM 57 t56,oE 58 (.faddr 1 t5) 57,oE 59 (.load none t58) 57,oE 60 (.call 53 [t59]) 57,oE 61 (.un .not t60) 57,oP 62 (.pick t57 vT t61),oM 36 t62])) (.cond t36 (.seq (rg 2 [oP 2 (.mv vF)]) (.cn [2] .ret)) (.seq (rg 63 (rF 64 t6 1++[oP 68 (.ext (.mnil true) [t67]),oM 63 t68])) (.cond t63 (.reg 0 (some [0,1,2,3,4,5,6]) (rF 69 t6 1++[oP 73 (.faddr 1 t5),oP 74 (.load none t73),oN (.ext .mput [t72,t74,(vI 1)])])) .skip))))) (.cn [3,5,10,11,12] (.sub 1 zar_b1)))))))) (rg 12 [oP 116 (.bi .add t12 (vI 1)),oM 12 t116])))))
def zar_q:IQ:=(.seq (rg 2 [oP 2 (.mv vF)]) (.seq (rg 3 [oP 8 (.build [.int .i64 0,.map none] [(0,1,(vI 1))]),oP 9 (.bslice 139 2 1 [.int .i64 0,.map none] [(0,t8)]),oM 3 t9]) (.seq (.seq (rg 12 [oM 10 t0,oP 11 (.len t10),oP 12 (.mv (vI 0))]) (.block 0 (.cn [3,10,11,12] (.sub 0 zar_b0)))) (.seq (rg 2 [oM 117 t3,oP 118 (.len t117),oP 119 (.bi .eql t118 (vI 0)),oM 2 t119]) (.cn [2] .ret)))))
theorem zar_chk:chk Tryd.prog 65 []=some (zar_q.erase,[.tmp 2],120):=by kernel_rfl
def qEs (open_:List (Int × MapC × Unit)):Option (((List (Int × MapC × Unit))) ⊕ ((List (Int × MapC × Unit)))) :=
 gd ((decide ((0:Int)<(open_.length:Int)))=true→qAe ((open_.length:Int) - (1:Int))) <|
 gd ((decide ((0:Int)<(open_.length:Int)))=true→0≤((open_.length:Int) - (1:Int))∧((open_.length:Int) - (1:Int))<open_.length) <|
 gd ((decide ((0:Int)<(open_.length:Int)))=true→(Int.toNat ((open_.length:Int) - (1:Int)))<open_.length) <|
 gd ((decide ((0:Int)<(open_.length:Int)))=true→(Int.toNat ((open_.length:Int) - (1:Int)))<open_.length) <|
 bif ((decide ((0:Int)<(open_.length:Int))) && (decide (((open_.getD (Int.toNat ((open_.length:Int) - (1:Int))) (NT.dft [.int .i64,.map])).1)=(0:Int)))) then (
  gd (qAe ((open_.length:Int) - (1:Int))) <|
  gd (0≤((open_.length:Int) - (1:Int))∧((open_.length:Int) - (1:Int))≤open_.length) <|
  some (.inl (open_.take (Int.toNat ((open_.length:Int) - (1:Int))))))
 else (
  some (.inr open_))
def zar_p3 (open_:List (Int × MapC × Unit)):Option ((List (Int × MapC × Unit))) :=
 qBg (fun x:((List (Int × MapC × Unit)))=>qEs x) open_
def zar_p2 (open_:List (Int × MapC × Unit)):Option ((List (Int × MapC × Unit))) :=
 (zar_p3 open_).bind fun o19 =>
 some o19
def zar_p1 (open_:List (Int × MapC × Unit)) (qIb qIe:Int):Option (Bool ⊕ ((List (Int × MapC × Unit)))) :=
 bif ((decide (qIb=(6:Int))) || (decide (qIb=(7:Int)))) then (
  bif decide ((32:Int)<(open_.length:Int)) then (
   some (.inl false))
  else (
   bif decide (qIb=(7:Int)) then (
    gd (open_.length+([(qIe,(some []),())]:List (Int × MapC × Unit)).length≤9223372036854775807∧(open_.length+([(qIe,(some []),())]:List (Int × MapC × Unit)).length)*16≤140737488355328) <|
    (zar_p2 (open_++[(qIe,(some []),())])).bind fun o20 =>
    some (.inr o20))
   else (
    gd (open_.length+([(qIe,(none:MapC),())]:List (Int × MapC × Unit)).length≤9223372036854775807∧(open_.length+([(qIe,(none:MapC),())]:List (Int × MapC × Unit)).length)*16≤140737488355328) <|
    (zar_p2 (open_++[(qIe,(none:MapC),())])).bind fun o21 =>
    some (.inr o21))))
 else (
  (zar_p2 open_).bind fun o22 =>
  some (.inr o22))
def qCx (x11_ x12_:Int) (x10_:List Eng.Node) (open_:List (Int × MapC × Unit)):Option ((Int × (List (Int × MapC × Unit))) ⊕ (Bool ⊕ ((List (Int × MapC × Unit))))) :=
 bif decide (x12_<x11_) then (
  gd (0≤x12_∧x12_<x10_.length) <|
  gd ((Int.toNat x12_)<x10_.length) <|
  bif decide ((open_.length:Int)=(0:Int)) then (
   some (.inr (.inl false)))
  else (
   (zat_s (x10_.getD (Int.toNat x12_) (ET.dft .node))).bind fun r17 =>
   bif (!r17) then (
    some (.inr (.inl false)))
   else (
    gd (qAe ((open_.length:Int) - (1:Int))) <|
    gd (0≤((open_.length:Int) - (1:Int))∧((open_.length:Int) - (1:Int))<open_.length) <|
    gd ((Int.toNat ((open_.length:Int) - (1:Int)))<open_.length) <|
    gd ((Int.toNat ((open_.length:Int) - (1:Int)))<open_.length) <|
    gd ((Int.toNat ((open_.length:Int) - (1:Int)))<open_.length) <|
    gd (qAe (((open_.getD (Int.toNat ((open_.length:Int) - (1:Int))) (NT.dft [.int .i64,.map])).1) - (1:Int))) <|
    gd ((Int.toNat ((open_.length:Int) - (1:Int)))<open_.length) <|
    gd ((Int.toNat ((open_.length:Int) - (1:Int)))<open_.length) <|
    gd ((Int.toNat ((open_.length:Int) - (1:Int)))<open_.length) <|
    gd ((Int.toNat ((open_.length:Int) - (1:Int)))<(open_.set (Int.toNat ((open_.length:Int) - (1:Int))) ((((open_.getD (Int.toNat ((open_.length:Int) - (1:Int))) (NT.dft [.int .i64,.map])).1) - (1:Int)),(open_.getD (Int.toNat ((open_.length:Int) - (1:Int))) (NT.dft [.int .i64,.map])).2)).length) <|
    gd ((Int.toNat ((open_.length:Int) - (1:Int)))<(open_.set (Int.toNat ((open_.length:Int) - (1:Int))) ((((open_.getD (Int.toNat ((open_.length:Int) - (1:Int))) (NT.dft [.int .i64,.map])).1) - (1:Int)),(open_.getD (Int.toNat ((open_.length:Int) - (1:Int))) (NT.dft [.int .i64,.map])).2)).length) <|
    gd ((Int.toNat ((open_.length:Int) - (1:Int)))<(open_.set (Int.toNat ((open_.length:Int) - (1:Int))) ((((open_.getD (Int.toNat ((open_.length:Int) - (1:Int))) (NT.dft [.int .i64,.map])).1) - (1:Int)),(open_.getD (Int.toNat ((open_.length:Int) - (1:Int))) (NT.dft [.int .i64,.map])).2)).length) <|
    gd ((Int.toNat ((open_.length:Int) - (1:Int)))<(open_.set (Int.toNat ((open_.length:Int) - (1:Int))) ((((open_.getD (Int.toNat ((open_.length:Int) - (1:Int))) (NT.dft [.int .i64,.map])).1) - (1:Int)),(open_.getD (Int.toNat ((open_.length:Int) - (1:Int))) (NT.dft [.int .i64,.map])).2)).length) <|
    gd ((((((open_.set (Int.toNat ((open_.length:Int) - (1:Int))) ((((open_.getD (Int.toNat ((open_.length:Int) - (1:Int))) (NT.dft [.int .i64,.map])).1) - (1:Int)),(open_.getD (Int.toNat ((open_.length:Int) - (1:Int))) (NT.dft [.int .i64,.map])).2)).getD (Int.toNat ((open_.length:Int) - (1:Int))) (NT.dft [.int .i64,.map])).2.1).isNone) && (!decide (((x10_.getD (Int.toNat x12_) (ET.dft .node)).key)=(⟨#[]⟩:BA))))=false→(Int.toNat ((open_.length:Int) - (1:Int)))<(open_.set (Int.toNat ((open_.length:Int) - (1:Int))) ((((open_.getD (Int.toNat ((open_.length:Int) - (1:Int))) (NT.dft [.int .i64,.map])).1) - (1:Int)),(open_.getD (Int.toNat ((open_.length:Int) - (1:Int))) (NT.dft [.int .i64,.map])).2)).length) <|
    gd ((((((open_.set (Int.toNat ((open_.length:Int) - (1:Int))) ((((open_.getD (Int.toNat ((open_.length:Int) - (1:Int))) (NT.dft [.int .i64,.map])).1) - (1:Int)),(open_.getD (Int.toNat ((open_.length:Int) - (1:Int))) (NT.dft [.int .i64,.map])).2)).getD (Int.toNat ((open_.length:Int) - (1:Int))) (NT.dft [.int .i64,.map])).2.1).isNone) && (!decide (((x10_.getD (Int.toNat x12_) (ET.dft .node)).key)=(⟨#[]⟩:BA))))=false→(Int.toNat ((open_.length:Int) - (1:Int)))<(open_.set (Int.toNat ((open_.length:Int) - (1:Int))) ((((open_.getD (Int.toNat ((open_.length:Int) - (1:Int))) (NT.dft [.int .i64,.map])).1) - (1:Int)),(open_.getD (Int.toNat ((open_.length:Int) - (1:Int))) (NT.dft [.int .i64,.map])).2)).length) <|
    gd ((((((open_.set (Int.toNat ((open_.length:Int) - (1:Int))) ((((open_.getD (Int.toNat ((open_.length:Int) - (1:Int))) (NT.dft [.int .i64,.map])).1) - (1:Int)),(open_.getD (Int.toNat ((open_.length:Int) - (1:Int))) (NT.dft [.int .i64,.map])).2)).getD (Int.toNat ((open_.length:Int) - (1:Int))) (NT.dft [.int .i64,.map])).2.1).isNone) && (!decide (((x10_.getD (Int.toNat x12_) (ET.dft .node)).key)=(⟨#[]⟩:BA))))=false→(Int.toNat ((open_.length:Int) - (1:Int)))<(open_.set (Int.toNat ((open_.length:Int) - (1:Int))) ((((open_.getD (Int.toNat ((open_.length:Int) - (1:Int))) (NT.dft [.int .i64,.map])).1) - (1:Int)),(open_.getD (Int.toNat ((open_.length:Int) - (1:Int))) (NT.dft [.int .i64,.map])).2)).length) <|
    gd ((((((open_.set (Int.toNat ((open_.length:Int) - (1:Int))) ((((open_.getD (Int.toNat ((open_.length:Int) - (1:Int))) (NT.dft [.int .i64,.map])).1) - (1:Int)),(open_.getD (Int.toNat ((open_.length:Int) - (1:Int))) (NT.dft [.int .i64,.map])).2)).getD (Int.toNat ((open_.length:Int) - (1:Int))) (NT.dft [.int .i64,.map])).2.1).isNone) && (!decide (((x10_.getD (Int.toNat x12_) (ET.dft .node)).key)=(⟨#[]⟩:BA))))=false→(Int.toNat ((open_.length:Int) - (1:Int)))<(open_.set (Int.toNat ((open_.length:Int) - (1:Int))) ((((open_.getD (Int.toNat ((open_.length:Int) - (1:Int))) (NT.dft [.int .i64,.map])).1) - (1:Int)),(open_.getD (Int.toNat ((open_.length:Int) - (1:Int))) (NT.dft [.int .i64,.map])).2)).length) <|
    (qAs ((x10_.getD (Int.toNat x12_) (ET.dft .node)).key)).bind fun r18 =>
    bif (((((((open_.set (Int.toNat ((open_.length:Int) - (1:Int))) ((((open_.getD (Int.toNat ((open_.length:Int) - (1:Int))) (NT.dft [.int .i64,.map])).1) - (1:Int)),(open_.getD (Int.toNat ((open_.length:Int) - (1:Int))) (NT.dft [.int .i64,.map])).2)).getD (Int.toNat ((open_.length:Int) - (1:Int))) (NT.dft [.int .i64,.map])).2.1).isNone) && (!decide (((x10_.getD (Int.toNat x12_) (ET.dft .node)).key)=(⟨#[]⟩:BA)))) || (decide ((0:Int)<(mget (((open_.set (Int.toNat ((open_.length:Int) - (1:Int))) ((((open_.getD (Int.toNat ((open_.length:Int) - (1:Int))) (NT.dft [.int .i64,.map])).1) - (1:Int)),(open_.getD (Int.toNat ((open_.length:Int) - (1:Int))) (NT.dft [.int .i64,.map])).2)).getD (Int.toNat ((open_.length:Int) - (1:Int))) (NT.dft [.int .i64,.map])).2.1) ((x10_.getD (Int.toNat x12_) (ET.dft .node)).key))))) || (!r18)) then (
     some (.inr (.inl false)))
    else (
     gd ((Int.toNat ((open_.length:Int) - (1:Int)))<(open_.set (Int.toNat ((open_.length:Int) - (1:Int))) ((((open_.getD (Int.toNat ((open_.length:Int) - (1:Int))) (NT.dft [.int .i64,.map])).1) - (1:Int)),(open_.getD (Int.toNat ((open_.length:Int) - (1:Int))) (NT.dft [.int .i64,.map])).2)).length) <|
     gd ((Int.toNat ((open_.length:Int) - (1:Int)))<(open_.set (Int.toNat ((open_.length:Int) - (1:Int))) ((((open_.getD (Int.toNat ((open_.length:Int) - (1:Int))) (NT.dft [.int .i64,.map])).1) - (1:Int)),(open_.getD (Int.toNat ((open_.length:Int) - (1:Int))) (NT.dft [.int .i64,.map])).2)).length) <|
     gd ((Int.toNat ((open_.length:Int) - (1:Int)))<(open_.set (Int.toNat ((open_.length:Int) - (1:Int))) ((((open_.getD (Int.toNat ((open_.length:Int) - (1:Int))) (NT.dft [.int .i64,.map])).1) - (1:Int)),(open_.getD (Int.toNat ((open_.length:Int) - (1:Int))) (NT.dft [.int .i64,.map])).2)).length) <|
     gd ((Int.toNat ((open_.length:Int) - (1:Int)))<(open_.set (Int.toNat ((open_.length:Int) - (1:Int))) ((((open_.getD (Int.toNat ((open_.length:Int) - (1:Int))) (NT.dft [.int .i64,.map])).1) - (1:Int)),(open_.getD (Int.toNat ((open_.length:Int) - (1:Int))) (NT.dft [.int .i64,.map])).2)).length) <|
     bif (((open_.set (Int.toNat ((open_.length:Int) - (1:Int))) ((((open_.getD (Int.toNat ((open_.length:Int) - (1:Int))) (NT.dft [.int .i64,.map])).1) - (1:Int)),(open_.getD (Int.toNat ((open_.length:Int) - (1:Int))) (NT.dft [.int .i64,.map])).2)).getD (Int.toNat ((open_.length:Int) - (1:Int))) (NT.dft [.int .i64,.map])).2.1).isSome then (
      gd ((Int.toNat ((open_.length:Int) - (1:Int)))<(open_.set (Int.toNat ((open_.length:Int) - (1:Int))) ((((open_.getD (Int.toNat ((open_.length:Int) - (1:Int))) (NT.dft [.int .i64,.map])).1) - (1:Int)),(open_.getD (Int.toNat ((open_.length:Int) - (1:Int))) (NT.dft [.int .i64,.map])).2)).length) <|
      gd ((Int.toNat ((open_.length:Int) - (1:Int)))<(open_.set (Int.toNat ((open_.length:Int) - (1:Int))) ((((open_.getD (Int.toNat ((open_.length:Int) - (1:Int))) (NT.dft [.int .i64,.map])).1) - (1:Int)),(open_.getD (Int.toNat ((open_.length:Int) - (1:Int))) (NT.dft [.int .i64,.map])).2)).length) <|
      gd ((Int.toNat ((open_.length:Int) - (1:Int)))<(open_.set (Int.toNat ((open_.length:Int) - (1:Int))) ((((open_.getD (Int.toNat ((open_.length:Int) - (1:Int))) (NT.dft [.int .i64,.map])).1) - (1:Int)),(open_.getD (Int.toNat ((open_.length:Int) - (1:Int))) (NT.dft [.int .i64,.map])).2)).length) <|
      gd ((Int.toNat ((open_.length:Int) - (1:Int)))<(open_.set (Int.toNat ((open_.length:Int) - (1:Int))) ((((open_.getD (Int.toNat ((open_.length:Int) - (1:Int))) (NT.dft [.int .i64,.map])).1) - (1:Int)),(open_.getD (Int.toNat ((open_.length:Int) - (1:Int))) (NT.dft [.int .i64,.map])).2)).length) <|
      gd ((((open_.set (Int.toNat ((open_.length:Int) - (1:Int))) ((((open_.getD (Int.toNat ((open_.length:Int) - (1:Int))) (NT.dft [.int .i64,.map])).1) - (1:Int)),(open_.getD (Int.toNat ((open_.length:Int) - (1:Int))) (NT.dft [.int .i64,.map])).2)).getD (Int.toNat ((open_.length:Int) - (1:Int))) (NT.dft [.int .i64,.map])).2.1).isSome=true) <|
      (zar_p1 ((open_.set (Int.toNat ((open_.length:Int) - (1:Int))) ((((open_.getD (Int.toNat ((open_.length:Int) - (1:Int))) (NT.dft [.int .i64,.map])).1) - (1:Int)),(open_.getD (Int.toNat ((open_.length:Int) - (1:Int))) (NT.dft [.int .i64,.map])).2)).set (Int.toNat ((open_.length:Int) - (1:Int))) (((open_.set (Int.toNat ((open_.length:Int) - (1:Int))) ((((open_.getD (Int.toNat ((open_.length:Int) - (1:Int))) (NT.dft [.int .i64,.map])).1) - (1:Int)),(open_.getD (Int.toNat ((open_.length:Int) - (1:Int))) (NT.dft [.int .i64,.map])).2)).getD (Int.toNat ((open_.length:Int) - (1:Int))) (NT.dft [.int .i64,.map])).1,((mput (((open_.set (Int.toNat ((open_.length:Int) - (1:Int))) ((((open_.getD (Int.toNat ((open_.length:Int) - (1:Int))) (NT.dft [.int .i64,.map])).1) - (1:Int)),(open_.getD (Int.toNat ((open_.length:Int) - (1:Int))) (NT.dft [.int .i64,.map])).2)).getD (Int.toNat ((open_.length:Int) - (1:Int))) (NT.dft [.int .i64,.map])).2.1) ((x10_.getD (Int.toNat x12_) (ET.dft .node)).key) (1:Int)),(((open_.set (Int.toNat ((open_.length:Int) - (1:Int))) ((((open_.getD (Int.toNat ((open_.length:Int) - (1:Int))) (NT.dft [.int .i64,.map])).1) - (1:Int)),(open_.getD (Int.toNat ((open_.length:Int) - (1:Int))) (NT.dft [.int .i64,.map])).2)).getD (Int.toNat ((open_.length:Int) - (1:Int))) (NT.dft [.int .i64,.map])).2).2))) ((x10_.getD (Int.toNat x12_) (ET.dft .node)).kind) ((x10_.getD (Int.toNat x12_) (ET.dft .node)).kids)).bind fun o23=>(Sum.elim (fun (o23_0:Bool) =>
       some (.inr (.inl o23_0))) (fun (o23_1:(List (Int × MapC × Unit))) =>
       gd (qAe (x12_+(1:Int))) <|
       some (.inl ((x12_+(1:Int)),o23_1)))) o23)
     else (
      (zar_p1 (open_.set (Int.toNat ((open_.length:Int) - (1:Int))) ((((open_.getD (Int.toNat ((open_.length:Int) - (1:Int))) (NT.dft [.int .i64,.map])).1) - (1:Int)),(open_.getD (Int.toNat ((open_.length:Int) - (1:Int))) (NT.dft [.int .i64,.map])).2)) ((x10_.getD (Int.toNat x12_) (ET.dft .node)).kind) ((x10_.getD (Int.toNat x12_) (ET.dft .node)).kids)).bind fun o24=>(Sum.elim (fun (o24_0:Bool) =>
       some (.inr (.inl o24_0))) (fun (o24_1:(List (Int × MapC × Unit))) =>
       gd (qAe (x12_+(1:Int))) <|
       some (.inl ((x12_+(1:Int)),o24_1)))) o24)))))
 else (
  some (.inr (.inr open_)))
def zar_p0 (x11_ x12_:Int) (x10_:List Eng.Node) (open_:List (Int × MapC × Unit)):Option (Bool ⊕ ((List (Int × MapC × Unit)))) :=
 qBg (fun x:(Int × (List (Int × MapC × Unit)))=>qCx x11_ x.1 x10_ x.2) (x12_,open_)
def zar_s (v:(List Eng.Node)):Option Bool :=
 (zar_p0 (v.length:Int) (0:Int) v [((1:Int),(none:MapC),())]).bind fun o25=>(Sum.elim (fun (o25_0:Bool) =>
  some o25_0) (fun (o25_1:(List (Int × MapC × Unit))) =>
  some (decide ((o25_1.length:Int)=(0:Int))))) o25
def zar_G:Nat→Option CQ:=tblQ [(89,zat_w),(53,qC1)]
theorem zar_Gok:∀f C,zar_G f=some C→qAf Tryd.prog f C:=qAj ⟨zat_ok,qDu,tV⟩
def zDJS1:=(qAb (dSO 10 (dO 0)) (qAb (dSO 11 dZ) (qAb (dSO 12 dZ) dNil)))
def zDJS2:=(qAb (qCi .node) (qAb (dBag [.int .i64,.map] 139) dNil))
def zar_d3:=(dQS (qAb (dSO 3 (dBsl 1)) zDJS1) zDJS2)
def zar_l3:SubQ:=mkL zar_d3 (fun x=>zar_p3 x.2.2.1) fun x r R kn kx kr=>kx 3 ⟨[sL 3 (.bsl 1),sL 10 (.own 0),sL 11 (.vI x.1.2.2.1),sL 12 (.vI x.1.2.2.2.1)],[],[.view .node x.2.1,.bag [.int .i64,.map] 139 r]⟩
def zar_d2:=(dQS (qAb (dSO 3 (dBsl 1)) zDJS1) zDJS2)
def zar_l2:SubQ:=mkL zar_d2 (fun x=>zar_p2 x.2.2.1) fun x r R kn kx kr=>kn ⟨[sL 3 (.bsl 1),sL 10 (.own 0),sL 11 (.vI x.1.2.2.1),sL 12 (.vI x.1.2.2.2.1)],[],[.view .node x.2.1,.bag [.int .i64,.map] 139 r]⟩
def zar_d1:=(dQS (qAb (dSO 3 (dBsl 1)) (qAb (dSO 5 (dH 2 0)) zDJS1)) (qAb (qCi .node) (qAb (dBag [.int .i64,.map] 139) (qAb (qF9 46 (qAb dZ (qAb dS (qAb dS (qAb dB (qAb dZ (qAb dZ dNil))))))) dNil))))
def zar_l1:SubQ:=mkL zar_d1 (fun x=>zar_p1 x.2.2.1 x.2.2.2.1.1 x.2.2.2.1.2.2.2.2.2.1) fun x r R kn kx kr=>(Sum.elim (fun (r_0:Bool)=>kr ⟨[sL 2 (.vB r_0)],[],[.view .node x.2.1]⟩) (fun (r_1:(List (Int × MapC × Unit)))=>kn ⟨[sL 3 (.bsl 1),sL 10 (.own 0),sL 11 (.vI x.1.2.2.2.1),sL 12 (.vI x.1.2.2.2.2.1)],[],[.view .node x.2.1,.bag [.int .i64,.map] 139 r_1]⟩)) r
def zar_d0:=(dQS (qAb (dSO 3 (dBsl 1)) zDJS1) zDJS2)
def zar_l0:SubQ:=mkL zar_d0 (fun x=>zar_p0 x.1.2.2.1 x.1.2.2.2.1 x.2.1 x.2.2.1) fun x r R kn kx kr=>(Sum.elim (fun (r_0:Bool)=>kr ⟨[sL 2 (.vB r_0)],[],[.view .node x.2.1]⟩) (fun (r_1:(List (Int × MapC × Unit)))=>kx 0 ⟨[sL 3 (.bsl 1)],[],[.view .node x.2.1,.bag [.int .i64,.map] 139 r_1]⟩)) r
def zar_L:Nat→SubQ:=tblL [(3,zar_l3),(2,zar_l2),(1,zar_l1),(0,zar_l0)]
theorem zar_sub3:qCo zar_L zar_G 1 13 120 3 zar_b3:=qA1 (show zar_L 3=zar_l3 from by kernel_rfl) fun x R kn kx kr=>qAz (step:=fun y=>qEs y) (enc:=fun (y:(List (Int × MapC × Unit)))=>zar_d3.e (x.1,(x.2.1,y,x.2.2.2))) (fun y=>by kernel_rfl) (fun y ki=>by simp only [qEs,-eq_self,qAd,qAh,obA,obS,slL,slR,qAc]; kernel_rfl) x.2.2.1
theorem zar_sub2:qCo zar_L zar_G 1 13 120 2 zar_b2:=qA1 (show zar_L 2=zar_l2 from by kernel_rfl) fun x R kn kx kr=>by
 simp only [zar_p2,-eq_self,qAd,qAh,obA,obS,slL,slR,qAc];kernel_rfl
theorem zar_sub1:qCo zar_L zar_G 1 13 120 1 zar_b1:=qA1 (show zar_L 1=zar_l1 from by kernel_rfl) fun x R kn kx kr=>by
 simp only [zar_p1,-eq_self,qAd,qAh,obA,obS,slL,slR,qAc];kernel_rfl
theorem zar_sub0:qCo zar_L zar_G 1 13 120 0 zar_b0:=qA1 (show zar_L 0=zar_l0 from by kernel_rfl) fun x R kn kx kr=>qAz (step:=fun y=>qCx x.1.2.2.1 y.1 x.2.1 y.2) (enc:=fun (y:Int × (List (Int × MapC × Unit)))=>zar_d0.e ((x.1.1,x.1.2.1,x.1.2.2.1,y.1,x.1.2.2.2.2),(x.2.1,y.2,x.2.2.2))) (fun y=>by kernel_rfl) (fun y ki=>by simp only [qCx,-eq_self,qAd,qAh,obA,obS,slL,slR,qAc]; kernel_rfl) (x.1.2.2.2.1,x.2.2.1)
theorem zar_subs:qAo zar_L zar_G 1 13 120 zar_q:=qAl (show qAr zar_L zar_G 1 13 120 [(0,zar_b0),(1,zar_b1),(2,zar_b2),(3,zar_b3)] from ⟨zar_sub0,zar_sub1,zar_sub2,zar_sub3,tV⟩)
def zar_da:=(qAb (dVC (dCO (dO 0))) dNil)
def zar_db:=(qAb (qCi .node) dNil)
def zar_c:CS:=mkC zar_da zar_db (fun x y=>zar_s y.1) (fun x y r=>.c (.o (.vB r))) fun x y r=>[.view .node y.1]
theorem zar_val:qAm Tryd.prog 65 zar_c:=qAn zar_chk 13 zar_Gok 1 (fun x=>Nat.le_of_ble_eq_true rfl) (fun y=>rfl) zar_subs fun x y=>by
 simp only [zar_s,-eq_self,qAd,qAh,obA,obS,slL,slR,qAc];kernel_rfl
def zar_w:CQ:=qCk [(0,none,some (.node,46))] (qDz [false] zar_c)
theorem zar_ok:qAf Tryd.prog 65 zar_w:=qFx zar_val
end
end Go.Proofs.YticplgndjpljiaaDoor
