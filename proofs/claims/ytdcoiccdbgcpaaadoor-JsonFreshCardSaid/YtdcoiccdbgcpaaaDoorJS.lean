/-
  Functions as the engine reads them (printed by gen.py).
-/
import Derived.Shelf.Unicode.ValidAny
import Derived.Shelf.Unicode.DecodeAny
import Derived.Shelf.Lay
import Derived.Ground.NamesProg
import Derived.Test.YtdcoiccdbgcpaaaDoorPDec
import Derived.Test.YtdcoiccdbgcpaaaDoorPShaped
import Derived.Test.YtdcoiccdbgcpaaaDoorEngO
import Derived.Test.YtdcoiccdbgcpaaaDoorProg
import Derived.Test.YtdcoiccdbgcpaaaDoorGC
namespace Go.Proofs.YtdcoiccdbgcpaaaDoor
open Go.Eng
set_option linter.unusedVariables false
set_option linter.unusedSimpArgs false
theorem p_Valid (s:BA) (hs:s.size≤3000000):zaa_s s=some (qBr s):=by
 unfold zaa_s;rw [p_read s (by omega)];rfl
theorem r_Valid (s:BA) (hs:s.size≤3000000):qDt s=some (qBr s):=by
 unfold qDt;rw [p_Read s (by omega)];rfl
theorem tdiv_neg (x:Int) (h:0≤x):Int.tdiv (-x) 10 = -(x / 10):=by
 rw [Int.neg_tdiv,Int.tdiv_eq_ediv_of_nonneg h]
def wholeI (t:BA):Nat→Nat→Int→Option Int
 | 0,_,v=>some v
 | j+1,i,v=>if (9223372036854775808 - (bAt t (i:Int) - 48) % 256) / 10<v then none else wholeI t j (i+1) (10*v+(bAt t (i:Int) - 48) % 256)
def qDj (s:BA):Int × Bool :=
 if qBr s=true∧(qD3 s).plain=true then match wholeI (qD3 s).text (qD3 s).text.size 0 0 with
  | none=>(0,false)
  | some u=>if (qD3 s).minus=true then (-u,true) else if u=9223372036854775808 then (0,false) else (u,true)
 else (0,false)
theorem whole_pair (t:BA) (hs:t.size≤3000000):∀(j i:Nat) (v:Int),i+j=t.size→0≤v∧v≤9223372036854775808 →
  (wholeI t j i v=none∧zab_p0 v (t.size:Int) (i:Int) t=some (.inl (0,false))∧qA3 (-v) (i:Int) t=some (.inl (0,false))) ∨
  (∃u:Int,wholeI t j i v=some u∧(0≤u∧u≤9223372036854775808)∧zab_p0 v (t.size:Int) (i:Int) t=some (.inr u)∧qA3 (-v) (i:Int) t=some (.inr (-u)))
 | 0,i,v,h,hv=>by
  refine .inr ⟨v,rfl,hv,?_,?_⟩
  ·unfold zab_p0;refine qAi ?_;unfold qEc;dsimp only;rw [deF (by omega),cnF]
  ·unfold qA3;refine qAi ?_;unfold qBu;dsimp only;rw [deF (by omega),cnF]
 | j+1,i,v,h,hv=>by
  obtain ⟨d,hd⟩:∃d,d=(bAt t i - 48) % 256:=⟨_,rfl⟩;have hd2:0≤d∧d<256:=by omega
  have hq:Int.tdiv (-9223372036854775808+d) 10 = -((9223372036854775808 - d) / 10):=by
   rw [show (-9223372036854775808+d) = -(9223372036854775808 - d) by omega];exact tdiv_neg _ (by omega)
  have e1:(9223372036854775808 - d % 18446744073709551616) % 18446744073709551616=9223372036854775808 - d:=by omega
  have s1:qEc v (t.size:Int) (i:Int) t=if (9223372036854775808 - d) / 10<v then some (.inr (.inl (0,false))) else some (.inl (10*v+d,((i+1:Nat):Int))):=by
   unfold qEc;rw [←hd,deT (by omega),cnT];refine (qAa (by omega) _).trans ?_;rw [e1];refine (qAa (by omega) _).trans ?_;by_cases hl:(9223372036854775808 - d) / 10<v
   ·rw [deT hl,cnT,if_pos hl]
   ·rw [deF hl,cnF,if_neg hl];refine (qAa (by unfold qAe; omega) _).trans ?_;rw [show (10*v % 18446744073709551616+d % 18446744073709551616) % 18446744073709551616=10*v+d by omega];rfl
  have s2:qBu (-v) (i:Int) t=if (9223372036854775808 - d) / 10<v then some (.inr (.inl (0,false))) else some (.inl (-(10*v+d),((i+1:Nat):Int))):=by
   unfold qBu;rw [←hd,deT (by omega),cnT];refine (qAa (by omega) _).trans ?_;refine (qAa (by unfold qAe; omega) _).trans ?_;refine (qAa (by unfold qAe; omega) _).trans ?_;refine (qAa ⟨by decide,by unfold qAe; omega⟩ _).trans ?_;rw [hq];by_cases hl:(9223372036854775808 - d) / 10<v
   ·rw [deT (by omega),cnT,if_pos hl]
   ·rw [deF (by omega),cnF,if_neg hl];refine (qAa (by unfold qAe; omega) _).trans ?_;refine (qAa (by unfold qAe; omega) _).trans ?_;refine (qAa (by unfold qAe; omega) _).trans ?_;rw [show 10 * -v - d = -(10*v+d) by omega];rfl
  by_cases hl:(9223372036854775808 - d) / 10<v
  ·have hw:wholeI t (j+1) i v=none:=by unfold wholeI; rw [←hd,if_pos hl]
   rw [if_pos hl] at s1 s2;refine .inl ⟨hw,?_,?_⟩
   ·unfold zab_p0;exact qAi s1
   ·unfold qA3;exact qAi s2
  ·have hw:wholeI t (j+1) i v=wholeI t j (i+1) (10*v+d):=by rw [wholeI,←hd,if_neg hl]
   rw [if_neg hl] at s1 s2;have ih:=whole_pair t hs j (i+1) (10*v+d) (by omega) (by omega);have w1:zab_p0 v (t.size:Int) (i:Int) t=zab_p0 (10*v+d) (t.size:Int) ((i+1:Nat):Int) t:=by
    unfold zab_p0;exact qAn s1
   have w2:qA3 (-v) (i:Int) t=qA3 (-(10*v+d)) ((i+1:Nat):Int) t:=by
    unfold qA3;exact qAn s2
   rw [hw,w1,w2];exact ih
theorem wholeV_no {s:BA} (h:¬(qBr s=true∧(qD3 s).plain=true)):qDj s=(0,false):=if_neg h
theorem wholeV_yes {s:BA} (h:qBr s=true∧(qD3 s).plain=true):qDj s=match wholeI (qD3 s).text (qD3 s).text.size 0 0 with
  | none=>(0,false)
  | some u=>if (qD3 s).minus=true then (-u,true) else if u=9223372036854775808 then (0,false) else (u,true):=if_pos h
theorem whole_is (s:BA) (hs:s.size≤3000000):zab_s s=some (qDj s)∧qCd s=some (qDj s):=by
 unfold zab_s qCd;rw [p_read s (by omega),p_Read s (by omega),obS,obS];cases hr:qBr s with
 | false =>
  rw [wholeV_no (by rw [hr]; simp)];exact ⟨rfl,rfl⟩
 | true =>
  rw [progAll_ok hr,readAll_ok hr];have hp:(num (qGx s)).plain=(rnum (qD3 s)).plain:=rfl;simp only [Bool.not_true,Bool.false_or];rw [hp];cases hpl:(rnum (qD3 s)).plain with
  | false =>
   have hpl:(qD3 s).plain=false:=hpl;rw [wholeV_no (by rw [hpl]; simp)];exact ⟨rfl,rfl⟩
  | true =>
   have hpl:(qD3 s).plain=true:=hpl;rw [wholeV_yes ⟨hr,hpl⟩];generalize hrs:qD3 s=r at *
   simp only [Bool.not_true,cnF];have ht:(num (qGx s)).whole=r.text:=by rw [←hrs]; rfl
   have hm:(num (qGx s)).minus=r.minus:=by rw [←hrs]; rfl
   rw [ht,hm];have hz:(rnum r).text.size≤3000000:=by
    rw [←hrs];show (s.extract _ _).size≤_;rw [ByteArray.size_extract]; omega
   have et:(rnum r).text=r.text:=rfl;have em:(rnum r).minus=r.minus:=rfl;rw [et] at hz;rw [et,em];have:=whole_pair r.text hz r.text.size 0 0 (by omega) (by omega);rw [show (-0:Int)=0 from rfl,show ((0:Nat):Int)=0 from rfl] at this;rcases this with ⟨h0,h1,h2⟩ | ⟨u,h0,hu,h1,h2⟩
   ·rw [h0];exact ⟨by rw [h1]; rfl,by rw [h2]; rfl⟩
   ·rw [h0,h1,h2,obS,obS];simp only [Sum.elim_inr];cases r.minus with
    | true =>
     rw [if_pos rfl];refine ⟨?_,rfl⟩;simp only [Bool.not_true,Bool.false_and,cnF,cnT];unfold w64;rw [IntKind.wrap_i64];congr 2
     omega
    | false =>
     simp only [Bool.not_false,Bool.true_and,cnF];rw [if_neg (by decide)];by_cases h0:u=9223372036854775808
     ·rw [if_pos h0];refine ⟨?_,?_⟩
      ·rw [deT h0,cnT]
      ·rw [deT (by omega),cnT]
     ·rw [if_neg h0];refine ⟨?_,?_⟩
      ·rw [deF h0,cnF];unfold w64;rw [IntKind.wrap_i64];congr 2
       omega
      ·rw [deF (by omega),cnF];refine (qAa (by unfold qAe; omega) _).trans ?_;rw [show 0 - -u=u by omega]
theorem whole_eq (s:BA) (hs:s.size≤3000000):∃r,zab_s s=some r∧qCd s=some r:=⟨_,whole_is s hs⟩
end Go.Proofs.YtdcoiccdbgcpaaaDoor
namespace Go.Proofs
open Go.Shelf
shelf_lay Lays.n196 Nm 196 at Tryd as Tryd.laysValid
shelf_lay Lays.n197 Nm 197 at Tryd as Tryd.laysDecode
end Go.Proofs
namespace Go.Proofs.YtdcoiccdbgcpaaaDoor
open Go.Eng
set_option linter.unusedVariables false
set_option linter.unusedSimpArgs false
theorem stays_below {w w':World} (h:Go.RowKit.Below w.heap.size w w'):Stays (fun _=>False) w w':=⟨h.os,h.output,h.size,fun k hk _=>h.block k hk⟩
theorem given_cont {α β γ:Type} {A:Dec α (List SV)} {B:Dec β (List SB)} (f:α→Option γ) (v:γ→SV) (args:List SV) (hp:List SB) (R:Type) (k:SV→List SB→Option R) :
  ((Dec.d A args).bind fun x=>(Dec.d B hp).bind fun y=>(f x).bind fun r=>k (v r) [])=(((Dec.d A args).bind fun x=>(Dec.d B hp).bind fun y=>(f x).bind fun r=>some (v r,([]:List SB))):Option (SV × List SB)).bind fun z=>k z.1 z.2:=by
 cases Dec.d A args with
 | none=>rfl
 | some x =>
  cases Dec.d B hp with
  | none=>rfl
  | some y=>simp only [obS,Option.bind_assoc]
def utf8_da:=(qAb (dVC (dCO dS)) dNil)
def utf8_db:=(dNil:Dec Unit (List SB))
noncomputable def qBa (s:BA):Option Bool:=gd (s.size≤9223372036854775807) (some (Lib.validD s.data.toList))
noncomputable def qGd:CS:=fun args hp R k=>(Dec.d utf8_da args).bind fun x=>(Dec.d utf8_db hp).bind fun y=>(qBa x.1).bind fun r=>k (.c (.o (.val (.bool r)))) []
theorem utf8_ValidString_val:qAm Tryd.prog 79 qGd:=by
 refine ⟨fun args hp R k=>given_cont (A:=utf8_da) (B:=utf8_db) (fun x=>qBa x.1) (fun r=>.c (.o (.val (.bool r)))) args hp R k,fun args hp v hp' hC hlt X w ρ hhp=>?_⟩;obtain ⟨x,h1,h2⟩:=Option.bind_eq_some_iff.1 hC;obtain ⟨y,h3,h4⟩:=Option.bind_eq_some_iff.1 h2;obtain ⟨r,h5,h6⟩:=Option.bind_eq_some_iff.1 h4;obtain ⟨hi,h7⟩:=gd_some.1 h5;rw [Dec.ok _ _ _ h1];have hhp':=Dec.ok _ _ _ h3;obtain ⟨s,u⟩:=x;simp only [snJ,Prod.mk.injEq] at h6 h7;obtain ⟨rfl,rfl⟩:=h6;simp only at hi;subst h7;rw [hhp'] at hhp ⊢;refine (Any.utf8_ValidString Tryd.laysValid s w hi hhp.tab.1).mono ?_;rintro e w' ⟨rfl,hb⟩
 obtain ⟨g1,g2⟩:=hhp.past ⟨rfl,rfl,Nat.le_refl _,fun k _ _=>rfl⟩ (stays_below hb);exact ⟨ρ,fun _ _=>rfl,Nat.le_refl _,rfl,trivial,g1,g2⟩
noncomputable def qDn:CQ:=qD4 [] qGd
theorem qFo:qAf Tryd.prog 79 qDn:=qAy utf8_ValidString_val
noncomputable def qBd (s:BA):Option (Int × Int):=some (((Lib.decodeGo s).1:Int),((Lib.decodeGo s).2:Int))
noncomputable def qC8:CS:=fun args hp R k=>(Dec.d utf8_da args).bind fun x=>(Dec.d utf8_db hp).bind fun y=>(qBd x.1).bind fun r=>k (.tup [.o (.val (.int .i32 r.1)),.o (.val (.int .i64 r.2))]) []
theorem qF1:qAm Tryd.prog 194 qC8:=by
 refine ⟨fun args hp R k=>given_cont (A:=utf8_da) (B:=utf8_db) (fun x=>qBd x.1) (fun r=>.tup [.o (.val (.int .i32 r.1)),.o (.val (.int .i64 r.2))]) args hp R k,fun args hp v hp' hC hlt X w ρ hhp=>?_⟩;obtain ⟨x,h1,h2⟩:=Option.bind_eq_some_iff.1 hC;obtain ⟨y,h3,h4⟩:=Option.bind_eq_some_iff.1 h2;obtain ⟨r,h5,h6⟩:=Option.bind_eq_some_iff.1 h4;rw [Dec.ok _ _ _ h1];have hhp':=Dec.ok _ _ _ h3;obtain ⟨s,u⟩:=x;simp only [qBd,snJ,Prod.mk.injEq] at h6 h5;obtain ⟨rfl,rfl⟩:=h6;subst h5;rw [hhp'] at hhp ⊢;refine (Any.utf8_DecodeRuneInString Tryd.laysDecode s w hhp.tab.1).mono ?_;rintro e w' ⟨rfl,hb⟩
 obtain ⟨g1,g2⟩:=hhp.past ⟨rfl,rfl,Nat.le_refl _,fun k _ _=>rfl⟩ (stays_below hb);exact ⟨ρ,fun _ _=>rfl,Nat.le_refl _,rfl,fun c hc=>by simp only [List.mem_cons,List.not_mem_nil,or_false] at hc; rcases hc with rfl | rfl <;> trivial,g1,g2⟩
noncomputable def qDa:CQ:=qD4 [] qC8
theorem qF3:qAf Tryd.prog 194 qDa:=qAy qF1
noncomputable def qB0 (s:BA):Option Bool:=gd (s.size≤9223372036854775807) (some (fullS s))
noncomputable def qDk:CS:=fun args hp R k=>(Dec.d utf8_da args).bind fun x=>(Dec.d utf8_db hp).bind fun y=>(qB0 x.1).bind fun r=>k (.c (.o (.val (.bool r)))) []
theorem qGp:qAm Tryd.prog 195 qDk:=by
 refine ⟨fun args hp R k=>given_cont (A:=utf8_da) (B:=utf8_db) (fun x=>qB0 x.1) (fun r=>.c (.o (.val (.bool r)))) args hp R k,fun args hp v hp' hC hlt X w ρ hhp=>?_⟩;obtain ⟨x,h1,h2⟩:=Option.bind_eq_some_iff.1 hC;obtain ⟨y,h3,h4⟩:=Option.bind_eq_some_iff.1 h2;obtain ⟨r,h5,h6⟩:=Option.bind_eq_some_iff.1 h4;obtain ⟨hi,h7⟩:=gd_some.1 h5;rw [Dec.ok _ _ _ h1];have hhp':=Dec.ok _ _ _ h3;obtain ⟨s,u⟩:=x;simp only [snJ,Prod.mk.injEq] at h6 h7;obtain ⟨rfl,rfl⟩:=h6;simp only at hi;subst h7;rw [hhp'] at hhp ⊢;refine (full_run s w hi hhp.tab.1).mono ?_;rintro e w' ⟨rfl,hb⟩
 obtain ⟨g1,g2⟩:=hhp.past ⟨rfl,rfl,Nat.le_refl _,fun k _ _=>rfl⟩ (stays_below hb);exact ⟨ρ,fun _ _=>rfl,Nat.le_refl _,rfl,trivial,g1,g2⟩
noncomputable def qDm:CQ:=qD4 [] qDk
theorem qG0:qAf Tryd.prog 195 qDm:=qAy qGp
end Go.Proofs.YtdcoiccdbgcpaaaDoor
namespace Go.Proofs.YtdcoiccdbgcpaaaDoor
open Go.Eng
set_option linter.unusedVariables false
set_option linter.unusedSimpArgs false
set_option maxRecDepth 100000
noncomputable section
def zao_q:IQ:=(.seq (rg 2 [oP 1 (.box 36 6 t0),oP 2 (.mv vF)]) (.seq (.block 0 (.seq (rg 5 [oP 6 (.faddr 0 t1),oP 7 (.load none t6),oP 8 (.bi .lss t7 (vI 1)),oM 9 t8,oE 10 (.faddr 0 t1) 9,oE 11 (.load none t10) 9,oE 12 (.bi .gtr t11 (vI 7)) 9,oP 13 (.pick t9 vT t12),oM 14 t13,oE 15 (.faddr 5 t1) 14,oE 16 (.load none t15) 14,oE 17 (.bi .lss t16 (vI 0)) 14,oP 18 (.pick t14 vT t17),oM 19 t18,oE 20 (.faddr 5 t1) 19,oE 21 (.load none t20) 19,oE 22 (.bi .gtr t21 (vI 0)) 19,oE 23 (.mv t22) 19,oF 24 (.faddr 0 t1) 23,oF 25 (.load none t24) 23,oF 26 (.bi .neq t25 (vI 6)) 23,oE 27 (.pick t23 t26 vF) 19,oE 28 (.mv t27) 19,oF 29 (.faddr 0 t1) 28,oF 30 (.load none t29) 28,oF 31 (.bi .neq t30 (vI 7)) 28,oE 32 (.pick t28 t31 vF) 19,oP 33 (.pick t19 vT t32),oM 5 t33]) (.cond t5 (.seq (rg 2 [oP 2 (.mv vF)]) (.cn [2] .ret)) (.seq (rg 34 [oP 35 (.faddr 0 t1),oP 36 (.load none t35),oP 37 (.bi .eql t36 (vI 4)),oM 34 t37]) (.cond t34 (.seq (rg 4 [oP 39 (.faddr 2 t1),oP 40 (.load none t39),oP 41 (.call 110 [t40]),oM 38 t41,oP 42 (.extract t38 0),oP 43 (.extract t38 1),oM 3 t42,oM 4 t43]) (.seq (rg 2 [oP 44 (.faddr 2 t1),oP 45 (.load none t44),oP 46 (.call 111 [t45]),oM 47 t46,oF 48 (.faddr 3 t1) 47,oF 49 (.load none t48) 47,oF 50 (.mv t4) 47,oF 51 (.beq false t49 t50) 47,oP 52 (.pick t47 t51 vF),oM 53 t52,oF 54 (.faddr 4 t1) 53,oF 55 (.load none t54) 53,oF 56 (.mv t3) 53,oF 57 (.bi .eql t55 t56) 53,oP 58 (.pick t53 t57 vF),oM 2 t58]) (.cn [2] .ret))) (.seq (rg 59 [oP 60 (.faddr 3 t1),oP 61 (.load none t60),oM 62 t61,oE 63 (.faddr 4 t1) 62,oE 64 (.load none t63) 62,oE 65 (.bi .neq t64 (vI 0)) 62,oP 66 (.pick t62 vT t65),oM 59 t66]) (.cond t59 (.seq (rg 2 [oP 2 (.mv vF)]) (.cn [2] .ret)) (.seq (rg 67 [oP 68 (.faddr 0 t1),oP 69 (.load none t68),oP 70 (.bi .eql t69 (vI 5)),oM 67 t70]) (.cond t67 (.seq (rg 2 [oP 71 (.faddr 2 t1),oP 72 (.load none t71),oP 73 (.call 79 [t72]),oM 2 t73]) (.cn [2] .ret)) .skip))))))))) (.seq (rg 2 [oP 74 (.faddr 2 t1),oP 75 (.load none t74),oP 76 (.bi .eql t75 (.v (.string ⟨#[]⟩))),oM 2 t76]) (.cn [2] .ret))))
theorem zao_chk:chk Tryd.prog 78 []=some (zao_q.erase,[.tmp 2],77):=by kernel_rfl
def zao_s (n:Eng.Node):Option Bool :=
 bif ((((decide (n.kind<(1:Int))) || (decide ((7:Int)<n.kind))) || (decide (n.kids<(0:Int)))) || (((decide ((0:Int)<n.kids)) && (!decide (n.kind=(6:Int)))) && (!decide (n.kind=(7:Int))))) then (
  some false)
 else (
  bif decide (n.kind=(4:Int)) then (
   (zab_s n.text).bind fun r1 =>
   (zaa_s n.text).bind fun r2 =>
   some ((r2 && (n.whole == r1.2)) && (decide (n.int=r1.1))))
  else (
   bif (n.whole || (!decide (n.int=(0:Int)))) then (
    some false)
   else (
    bif decide (n.kind=(5:Int)) then (
     (qBa n.text).bind fun r3 =>
     some r3)
    else (
     some (decide (n.text=(⟨#[]⟩:BA)))))))
def zao_G:Nat→Option CQ:=tblQ [(110,zab_w),(111,zaa_w),(79,qDn)]
theorem zao_Gok:∀f C,zao_G f=some C→qAf Tryd.prog f C:=qAl ⟨zab_ok,zaa_ok,qFo,tV⟩
def zao_L:Nat→SubQ:=tblL []
theorem zao_subs:qAp zao_L zao_G 0 5 77 zao_q:=qAk (show qAr zao_L zao_G 0 5 77 [] from tV)
def zao_da:=(qAb (dVC (dCA (qAb dZ (qAb dS (qAb dS (qAb dB (qAb dZ (qAb dZ dNil)))))))) dNil)
def zao_db:=(dNil:Dec Unit (List SB))
def zao_c:CS:=mkC zao_da zao_db (fun x y=>zao_s (⟨x.1.1,x.1.2.1,x.1.2.2.1,x.1.2.2.2.1,x.1.2.2.2.2.1,x.1.2.2.2.2.2.1⟩:Eng.Node)) (fun x y r=>.c (.o (.vB r))) fun x y r=>[]
theorem zao_val:qAm Tryd.prog 78 zao_c:=qAo zao_chk 5 zao_Gok 0 (fun x=>Nat.le_of_ble_eq_true rfl) (fun y=>rfl) zao_subs fun x y=>by
 simp only [zao_s,-eq_self,qAd,qAg,obA,obS,slL,slR,qAc];kernel_rfl
def zao_w:CQ:=qD4 [] zao_c
theorem zao_ok:qAf Tryd.prog 78 zao_w:=qAy zao_val
def zam_b3:IQ:=(.loop [3,10,11,12] (.seq (.seq (rg 110 [oM 98 t3,oP 99 (.len t98),oP 100 (.bi .gtr t99 (vI 0)),oM 101 t100,oF 102 (.mv t3) 101,oF 103 (.mv t3) 101,oF 104 (.len t103) 101,oF 105 (.bi .sub t104 (vI 1)) 101,oF 106 (.iaddr 2 t102 t105) 101,oF 107 (.faddr 0 t106) 101,oF 108 (.load none t107) 101,oF 109 (.bi .eql t108 (vI 0)) 101,oP 110 (.pick t101 t109 vF)]) (.cond t110 .skip (.cn [3,10,11,12] (.exit 3)))) (.block 4 (rg 3 [oM 111 t3,oM 112 t3,oP 113 (.len t112),oP 114 (.bi .sub t113 (vI 1)),oP 115 (.sub (some 2) t111 none (some t114)),oM 3 t115]))))
def zam_b2:IQ:=(.join [] [3,10,11,12] (.block 3 (.cn [3,10,11,12] (.sub 3 zam_b3))))
def zam_b1:IQ:=(.join [] [3,10,11,12] (.seq (.seq (rg 82 [oP 75 (.faddr 0 t5),oP 76 (.load none t75),oP 77 (.bi .eql t76 (vI 6)),oM 78 t77,oE 79 (.faddr 0 t5) 78,oE 80 (.load none t79) 78,oE 81 (.bi .eql t80 (vI 7)) 78,oP 82 (.pick t78 vT t81)]) (.cond t82 (.seq (.seq (rg 85 [oM 83 t3,oP 84 (.len t83),oP 85 (.bi .gtr t84 (vI 32))]) (.cond t85 (.seq (rg 2 [oP 2 (.mv vF)]) (.cn [2] .ret)) .skip)) (.seq (rg 0 [oP 86 (.faddr 5 t5),oP 87 (.load none t86),oP 88 (.build [.int .i64 0,.map none] [(0,1,t87)]),oP 7 (.alloc 101 [.int .i64 0,.map none]),oN (.store 2 t7 t88)]) (.seq (.seq (rg 91 [oP 89 (.faddr 0 t5),oP 90 (.load none t89),oP 91 (.bi .eql t90 (vI 7))]) (.cond t91 (rg 0 [oP 92 (.ext .mkmap []),oP 93 (.faddr 1 t7),oN (.store 1 t93 t92)]) .skip)) (rg 3 [oM 94 t3,oP 95 (.load (some 2) t7),oP 96 (.bslice 101 2 1 [.int .i64 0,.map none] [(0,t95)]),oP 97 (.append 101 2 16 [.int .i64 0,.map none] t94 t96),oM 3 t97])))) .skip)) (.cn [3,10,11,12] (.sub 2 zam_b2))))
def zam_b0:IQ:=(.loop [3,10,11,12] (.seq (rg 13 [oP 13 (.bi .lss t12 t11)]) (.seq (.cond t13 .skip (.cn [3] (.exit 0))) (.seq (.block 1 (.seq (rg 0 [oP 14 (.iaddr 6 t10 t12),oP 15 (.load (some 6) t14),oP 5 (.alloc 36 [.int .i64 0,.string ⟨#[]⟩,.string ⟨#[]⟩,.bool false,.int .i64 0,.int .i64 0]),oN (.store 6 t5 t15)]) (.seq (.seq (rg 23 [oM 16 t3,oP 17 (.len t16),oP 18 (.bi .eql t17 (vI 0)),oM 19 t18,oE 20 (.load (some 6) t5) 19,oE 21 (.call 78 [t20]) 19,oE 22 (.un .not t21) 19,oP 23 (.pick t19 vT t22)]) (.cond t23 (.seq (rg 2 [oP 2 (.mv vF)]) (.cn [2] .ret)) .skip)) (.seq (rg 6 [oM 24 t3,oM 25 t3,oP 26 (.len t25),oP 27 (.bi .sub t26 (vI 1)),oP 28 (.iaddr 2 t24 t27),oM 6 t28]) (.seq (rg 0 (rF 29 t6 0++[oP 33 (.bi .sub t32 (vI 1))]++rS 34 t29 0 t33)) (.seq (.block 2 (.seq (.reg 36 (some [0,1,2,3,4,5,6,7,8,9,10,11,12,13,14,15,16,17,18,19,20,21,22,23,24,25,26]) (rF 37 t6 1++[oP 41 (.ext (.mnil false) [t40]),oM 42 t41,oF 43 (.faddr 1 t5) 42,oF 44 (.load none t43) 42,oF 45 (.bi .neq t44 (.v (.string ⟨#[]⟩))) 42,oP 46 (.pick t42 t45 vF),oM 47 t46]++rH oE 48 t6 1 47++[oE 52 (.faddr 1 t5) 47,oE 53 (.load none t52) 47,oE 54 (.ext .mget [t51,t53]) 47,oE 55 (.bi .gtr t54 (vI 0)) 47,oP 56 (.pick t47 vT t55),oM 57 t56,oE 58 (.faddr 1 t5) 57,oE 59 (.load none t58) 57,oE 60 (.call 79 [t59]) 57,oE 61 (.un .not t60) 57,oP 62 (.pick t57 vT t61),oM 36 t62])) (.cond t36 (.seq (rg 2 [oP 2 (.mv vF)]) (.cn [2] .ret)) (.seq (rg 63 (rF 64 t6 1++[oP 68 (.ext (.mnil true) [t67]),oM 63 t68])) (.cond t63 (.reg 0 (some [0,1,2,3,4,5,6]) (rF 69 t6 1++[oP 73 (.faddr 1 t5),oP 74 (.load none t73),oN (.ext .mput [t72,t74,(vI 1)])])) .skip))))) (.cn [3,5,10,11,12] (.sub 1 zam_b1)))))))) (rg 12 [oP 116 (.bi .add t12 (vI 1)),oM 12 t116])))))
def zam_q:IQ:=(.seq (rg 2 [oP 2 (.mv vF)]) (.seq (rg 3 [oP 8 (.build [.int .i64 0,.map none] [(0,1,(vI 1))]),oP 9 (.bslice 101 2 1 [.int .i64 0,.map none] [(0,t8)]),oM 3 t9]) (.seq (.seq (rg 12 [oM 10 t0,oP 11 (.len t10),oP 12 (.mv (vI 0))]) (.block 0 (.cn [3,10,11,12] (.sub 0 zam_b0)))) (.seq (rg 2 [oM 117 t3,oP 118 (.len t117),oP 119 (.bi .eql t118 (vI 0)),oM 2 t119]) (.cn [2] .ret)))))
theorem zam_chk:chk Tryd.prog 39 []=some (zam_q.erase,[.tmp 2],120):=by kernel_rfl
def qEi (open_:List (Int × MapC × Unit)):Option (((List (Int × MapC × Unit))) ⊕ ((List (Int × MapC × Unit)))) :=
 gd ((decide ((0:Int)<(open_.length:Int)))=true→qAe ((open_.length:Int) - (1:Int))) <|
 gd ((decide ((0:Int)<(open_.length:Int)))=true→0≤((open_.length:Int) - (1:Int))∧((open_.length:Int) - (1:Int))<open_.length) <|
 gd ((decide ((0:Int)<(open_.length:Int)))=true→(Int.toNat ((open_.length:Int) - (1:Int)))<open_.length) <|
 gd ((decide ((0:Int)<(open_.length:Int)))=true→(Int.toNat ((open_.length:Int) - (1:Int)))<open_.length) <|
 bif ((decide ((0:Int)<(open_.length:Int))) && (decide (((open_.getD (Int.toNat ((open_.length:Int) - (1:Int))) (NT.dft [.int .i64,.map])).1)=(0:Int)))) then (
  gd (qAe ((open_.length:Int) - (1:Int))) <|
  gd (0≤((open_.length:Int) - (1:Int))∧((open_.length:Int) - (1:Int))≤open_.length) <|
  some (.inl (open_.take (Int.toNat ((open_.length:Int) - (1:Int))))))
 else (
  some (.inr open_))
def zam_p3 (open_:List (Int × MapC × Unit)):Option ((List (Int × MapC × Unit))) :=
 qA2 (fun x:((List (Int × MapC × Unit)))=>qEi x) open_
def zam_p2 (open_:List (Int × MapC × Unit)):Option ((List (Int × MapC × Unit))) :=
 (zam_p3 open_).bind fun o19 =>
 some o19
def zam_p1 (open_:List (Int × MapC × Unit)) (qHl qHn:Int):Option (Bool ⊕ ((List (Int × MapC × Unit)))) :=
 bif ((decide (qHl=(6:Int))) || (decide (qHl=(7:Int)))) then (
  bif decide ((32:Int)<(open_.length:Int)) then (
   some (.inl false))
  else (
   bif decide (qHl=(7:Int)) then (
    gd (open_.length+([(qHn,(some []),())]:List (Int × MapC × Unit)).length≤9223372036854775807∧(open_.length+([(qHn,(some []),())]:List (Int × MapC × Unit)).length)*16≤140737488355328) <|
    (zam_p2 (open_++[(qHn,(some []),())])).bind fun o20 =>
    some (.inr o20))
   else (
    gd (open_.length+([(qHn,(none:MapC),())]:List (Int × MapC × Unit)).length≤9223372036854775807∧(open_.length+([(qHn,(none:MapC),())]:List (Int × MapC × Unit)).length)*16≤140737488355328) <|
    (zam_p2 (open_++[(qHn,(none:MapC),())])).bind fun o21 =>
    some (.inr o21))))
 else (
  (zam_p2 open_).bind fun o22 =>
  some (.inr o22))
def qCq (x11_ x12_:Int) (x10_:List Eng.Node) (open_:List (Int × MapC × Unit)):Option ((Int × (List (Int × MapC × Unit))) ⊕ (Bool ⊕ ((List (Int × MapC × Unit))))) :=
 bif decide (x12_<x11_) then (
  gd (0≤x12_∧x12_<x10_.length) <|
  gd ((Int.toNat x12_)<x10_.length) <|
  bif decide ((open_.length:Int)=(0:Int)) then (
   some (.inr (.inl false)))
  else (
   (zao_s (x10_.getD (Int.toNat x12_) (ET.dft .node))).bind fun r17 =>
   bif (!r17) then (
    some (.inr (.inl false)))
   else (
    gd (qAe ((open_.length:Int) - (1:Int))) <|
    gd (0≤((open_.length:Int) - (1:Int))∧((open_.length:Int) - (1:Int))<open_.length) <|
    gd ((Int.toNat ((open_.length:Int) - (1:Int)))<open_.length) <|
    gd ((Int.toNat ((open_.length:Int) - (1:Int)))<open_.length) <|
    gd ((Int.toNat ((open_.length:Int) - (1:Int)))<open_.length) <|
    gd (qAe (((open_.getD (Int.toNat ((open_.length:Int) - (1:Int))) (NT.dft [.int .i64,.map])).1) - (1:Int))) <|
    gd ((Int.toNat ((open_.length:Int) - (1:Int)))<open_.length) <|
    gd ((Int.toNat ((open_.length:Int) - (1:Int)))<open_.length) <|
    gd ((Int.toNat ((open_.length:Int) - (1:Int)))<open_.length) <|
    gd ((Int.toNat ((open_.length:Int) - (1:Int)))<(open_.set (Int.toNat ((open_.length:Int) - (1:Int))) ((((open_.getD (Int.toNat ((open_.length:Int) - (1:Int))) (NT.dft [.int .i64,.map])).1) - (1:Int)),(open_.getD (Int.toNat ((open_.length:Int) - (1:Int))) (NT.dft [.int .i64,.map])).2)).length) <|
    gd ((Int.toNat ((open_.length:Int) - (1:Int)))<(open_.set (Int.toNat ((open_.length:Int) - (1:Int))) ((((open_.getD (Int.toNat ((open_.length:Int) - (1:Int))) (NT.dft [.int .i64,.map])).1) - (1:Int)),(open_.getD (Int.toNat ((open_.length:Int) - (1:Int))) (NT.dft [.int .i64,.map])).2)).length) <|
    gd ((Int.toNat ((open_.length:Int) - (1:Int)))<(open_.set (Int.toNat ((open_.length:Int) - (1:Int))) ((((open_.getD (Int.toNat ((open_.length:Int) - (1:Int))) (NT.dft [.int .i64,.map])).1) - (1:Int)),(open_.getD (Int.toNat ((open_.length:Int) - (1:Int))) (NT.dft [.int .i64,.map])).2)).length) <|
    gd ((Int.toNat ((open_.length:Int) - (1:Int)))<(open_.set (Int.toNat ((open_.length:Int) - (1:Int))) ((((open_.getD (Int.toNat ((open_.length:Int) - (1:Int))) (NT.dft [.int .i64,.map])).1) - (1:Int)),(open_.getD (Int.toNat ((open_.length:Int) - (1:Int))) (NT.dft [.int .i64,.map])).2)).length) <|
    gd ((((((open_.set (Int.toNat ((open_.length:Int) - (1:Int))) ((((open_.getD (Int.toNat ((open_.length:Int) - (1:Int))) (NT.dft [.int .i64,.map])).1) - (1:Int)),(open_.getD (Int.toNat ((open_.length:Int) - (1:Int))) (NT.dft [.int .i64,.map])).2)).getD (Int.toNat ((open_.length:Int) - (1:Int))) (NT.dft [.int .i64,.map])).2.1).isNone) && (!decide (((x10_.getD (Int.toNat x12_) (ET.dft .node)).key)=(⟨#[]⟩:BA))))=false→(Int.toNat ((open_.length:Int) - (1:Int)))<(open_.set (Int.toNat ((open_.length:Int) - (1:Int))) ((((open_.getD (Int.toNat ((open_.length:Int) - (1:Int))) (NT.dft [.int .i64,.map])).1) - (1:Int)),(open_.getD (Int.toNat ((open_.length:Int) - (1:Int))) (NT.dft [.int .i64,.map])).2)).length) <|
    gd ((((((open_.set (Int.toNat ((open_.length:Int) - (1:Int))) ((((open_.getD (Int.toNat ((open_.length:Int) - (1:Int))) (NT.dft [.int .i64,.map])).1) - (1:Int)),(open_.getD (Int.toNat ((open_.length:Int) - (1:Int))) (NT.dft [.int .i64,.map])).2)).getD (Int.toNat ((open_.length:Int) - (1:Int))) (NT.dft [.int .i64,.map])).2.1).isNone) && (!decide (((x10_.getD (Int.toNat x12_) (ET.dft .node)).key)=(⟨#[]⟩:BA))))=false→(Int.toNat ((open_.length:Int) - (1:Int)))<(open_.set (Int.toNat ((open_.length:Int) - (1:Int))) ((((open_.getD (Int.toNat ((open_.length:Int) - (1:Int))) (NT.dft [.int .i64,.map])).1) - (1:Int)),(open_.getD (Int.toNat ((open_.length:Int) - (1:Int))) (NT.dft [.int .i64,.map])).2)).length) <|
    gd ((((((open_.set (Int.toNat ((open_.length:Int) - (1:Int))) ((((open_.getD (Int.toNat ((open_.length:Int) - (1:Int))) (NT.dft [.int .i64,.map])).1) - (1:Int)),(open_.getD (Int.toNat ((open_.length:Int) - (1:Int))) (NT.dft [.int .i64,.map])).2)).getD (Int.toNat ((open_.length:Int) - (1:Int))) (NT.dft [.int .i64,.map])).2.1).isNone) && (!decide (((x10_.getD (Int.toNat x12_) (ET.dft .node)).key)=(⟨#[]⟩:BA))))=false→(Int.toNat ((open_.length:Int) - (1:Int)))<(open_.set (Int.toNat ((open_.length:Int) - (1:Int))) ((((open_.getD (Int.toNat ((open_.length:Int) - (1:Int))) (NT.dft [.int .i64,.map])).1) - (1:Int)),(open_.getD (Int.toNat ((open_.length:Int) - (1:Int))) (NT.dft [.int .i64,.map])).2)).length) <|
    gd ((((((open_.set (Int.toNat ((open_.length:Int) - (1:Int))) ((((open_.getD (Int.toNat ((open_.length:Int) - (1:Int))) (NT.dft [.int .i64,.map])).1) - (1:Int)),(open_.getD (Int.toNat ((open_.length:Int) - (1:Int))) (NT.dft [.int .i64,.map])).2)).getD (Int.toNat ((open_.length:Int) - (1:Int))) (NT.dft [.int .i64,.map])).2.1).isNone) && (!decide (((x10_.getD (Int.toNat x12_) (ET.dft .node)).key)=(⟨#[]⟩:BA))))=false→(Int.toNat ((open_.length:Int) - (1:Int)))<(open_.set (Int.toNat ((open_.length:Int) - (1:Int))) ((((open_.getD (Int.toNat ((open_.length:Int) - (1:Int))) (NT.dft [.int .i64,.map])).1) - (1:Int)),(open_.getD (Int.toNat ((open_.length:Int) - (1:Int))) (NT.dft [.int .i64,.map])).2)).length) <|
    (qBa ((x10_.getD (Int.toNat x12_) (ET.dft .node)).key)).bind fun r18 =>
    bif (((((((open_.set (Int.toNat ((open_.length:Int) - (1:Int))) ((((open_.getD (Int.toNat ((open_.length:Int) - (1:Int))) (NT.dft [.int .i64,.map])).1) - (1:Int)),(open_.getD (Int.toNat ((open_.length:Int) - (1:Int))) (NT.dft [.int .i64,.map])).2)).getD (Int.toNat ((open_.length:Int) - (1:Int))) (NT.dft [.int .i64,.map])).2.1).isNone) && (!decide (((x10_.getD (Int.toNat x12_) (ET.dft .node)).key)=(⟨#[]⟩:BA)))) || (decide ((0:Int)<(mget (((open_.set (Int.toNat ((open_.length:Int) - (1:Int))) ((((open_.getD (Int.toNat ((open_.length:Int) - (1:Int))) (NT.dft [.int .i64,.map])).1) - (1:Int)),(open_.getD (Int.toNat ((open_.length:Int) - (1:Int))) (NT.dft [.int .i64,.map])).2)).getD (Int.toNat ((open_.length:Int) - (1:Int))) (NT.dft [.int .i64,.map])).2.1) ((x10_.getD (Int.toNat x12_) (ET.dft .node)).key))))) || (!r18)) then (
     some (.inr (.inl false)))
    else (
     gd ((Int.toNat ((open_.length:Int) - (1:Int)))<(open_.set (Int.toNat ((open_.length:Int) - (1:Int))) ((((open_.getD (Int.toNat ((open_.length:Int) - (1:Int))) (NT.dft [.int .i64,.map])).1) - (1:Int)),(open_.getD (Int.toNat ((open_.length:Int) - (1:Int))) (NT.dft [.int .i64,.map])).2)).length) <|
     gd ((Int.toNat ((open_.length:Int) - (1:Int)))<(open_.set (Int.toNat ((open_.length:Int) - (1:Int))) ((((open_.getD (Int.toNat ((open_.length:Int) - (1:Int))) (NT.dft [.int .i64,.map])).1) - (1:Int)),(open_.getD (Int.toNat ((open_.length:Int) - (1:Int))) (NT.dft [.int .i64,.map])).2)).length) <|
     gd ((Int.toNat ((open_.length:Int) - (1:Int)))<(open_.set (Int.toNat ((open_.length:Int) - (1:Int))) ((((open_.getD (Int.toNat ((open_.length:Int) - (1:Int))) (NT.dft [.int .i64,.map])).1) - (1:Int)),(open_.getD (Int.toNat ((open_.length:Int) - (1:Int))) (NT.dft [.int .i64,.map])).2)).length) <|
     gd ((Int.toNat ((open_.length:Int) - (1:Int)))<(open_.set (Int.toNat ((open_.length:Int) - (1:Int))) ((((open_.getD (Int.toNat ((open_.length:Int) - (1:Int))) (NT.dft [.int .i64,.map])).1) - (1:Int)),(open_.getD (Int.toNat ((open_.length:Int) - (1:Int))) (NT.dft [.int .i64,.map])).2)).length) <|
     bif (((open_.set (Int.toNat ((open_.length:Int) - (1:Int))) ((((open_.getD (Int.toNat ((open_.length:Int) - (1:Int))) (NT.dft [.int .i64,.map])).1) - (1:Int)),(open_.getD (Int.toNat ((open_.length:Int) - (1:Int))) (NT.dft [.int .i64,.map])).2)).getD (Int.toNat ((open_.length:Int) - (1:Int))) (NT.dft [.int .i64,.map])).2.1).isSome then (
      gd ((Int.toNat ((open_.length:Int) - (1:Int)))<(open_.set (Int.toNat ((open_.length:Int) - (1:Int))) ((((open_.getD (Int.toNat ((open_.length:Int) - (1:Int))) (NT.dft [.int .i64,.map])).1) - (1:Int)),(open_.getD (Int.toNat ((open_.length:Int) - (1:Int))) (NT.dft [.int .i64,.map])).2)).length) <|
      gd ((Int.toNat ((open_.length:Int) - (1:Int)))<(open_.set (Int.toNat ((open_.length:Int) - (1:Int))) ((((open_.getD (Int.toNat ((open_.length:Int) - (1:Int))) (NT.dft [.int .i64,.map])).1) - (1:Int)),(open_.getD (Int.toNat ((open_.length:Int) - (1:Int))) (NT.dft [.int .i64,.map])).2)).length) <|
      gd ((Int.toNat ((open_.length:Int) - (1:Int)))<(open_.set (Int.toNat ((open_.length:Int) - (1:Int))) ((((open_.getD (Int.toNat ((open_.length:Int) - (1:Int))) (NT.dft [.int .i64,.map])).1) - (1:Int)),(open_.getD (Int.toNat ((open_.length:Int) - (1:Int))) (NT.dft [.int .i64,.map])).2)).length) <|
      gd ((Int.toNat ((open_.length:Int) - (1:Int)))<(open_.set (Int.toNat ((open_.length:Int) - (1:Int))) ((((open_.getD (Int.toNat ((open_.length:Int) - (1:Int))) (NT.dft [.int .i64,.map])).1) - (1:Int)),(open_.getD (Int.toNat ((open_.length:Int) - (1:Int))) (NT.dft [.int .i64,.map])).2)).length) <|
      gd ((((open_.set (Int.toNat ((open_.length:Int) - (1:Int))) ((((open_.getD (Int.toNat ((open_.length:Int) - (1:Int))) (NT.dft [.int .i64,.map])).1) - (1:Int)),(open_.getD (Int.toNat ((open_.length:Int) - (1:Int))) (NT.dft [.int .i64,.map])).2)).getD (Int.toNat ((open_.length:Int) - (1:Int))) (NT.dft [.int .i64,.map])).2.1).isSome=true) <|
      (zam_p1 ((open_.set (Int.toNat ((open_.length:Int) - (1:Int))) ((((open_.getD (Int.toNat ((open_.length:Int) - (1:Int))) (NT.dft [.int .i64,.map])).1) - (1:Int)),(open_.getD (Int.toNat ((open_.length:Int) - (1:Int))) (NT.dft [.int .i64,.map])).2)).set (Int.toNat ((open_.length:Int) - (1:Int))) (((open_.set (Int.toNat ((open_.length:Int) - (1:Int))) ((((open_.getD (Int.toNat ((open_.length:Int) - (1:Int))) (NT.dft [.int .i64,.map])).1) - (1:Int)),(open_.getD (Int.toNat ((open_.length:Int) - (1:Int))) (NT.dft [.int .i64,.map])).2)).getD (Int.toNat ((open_.length:Int) - (1:Int))) (NT.dft [.int .i64,.map])).1,((mput (((open_.set (Int.toNat ((open_.length:Int) - (1:Int))) ((((open_.getD (Int.toNat ((open_.length:Int) - (1:Int))) (NT.dft [.int .i64,.map])).1) - (1:Int)),(open_.getD (Int.toNat ((open_.length:Int) - (1:Int))) (NT.dft [.int .i64,.map])).2)).getD (Int.toNat ((open_.length:Int) - (1:Int))) (NT.dft [.int .i64,.map])).2.1) ((x10_.getD (Int.toNat x12_) (ET.dft .node)).key) (1:Int)),(((open_.set (Int.toNat ((open_.length:Int) - (1:Int))) ((((open_.getD (Int.toNat ((open_.length:Int) - (1:Int))) (NT.dft [.int .i64,.map])).1) - (1:Int)),(open_.getD (Int.toNat ((open_.length:Int) - (1:Int))) (NT.dft [.int .i64,.map])).2)).getD (Int.toNat ((open_.length:Int) - (1:Int))) (NT.dft [.int .i64,.map])).2).2))) ((x10_.getD (Int.toNat x12_) (ET.dft .node)).kind) ((x10_.getD (Int.toNat x12_) (ET.dft .node)).kids)).bind fun o23=>(Sum.elim (fun (o23_0:Bool) =>
       some (.inr (.inl o23_0))) (fun (o23_1:(List (Int × MapC × Unit))) =>
       gd (qAe (x12_+(1:Int))) <|
       some (.inl ((x12_+(1:Int)),o23_1)))) o23)
     else (
      (zam_p1 (open_.set (Int.toNat ((open_.length:Int) - (1:Int))) ((((open_.getD (Int.toNat ((open_.length:Int) - (1:Int))) (NT.dft [.int .i64,.map])).1) - (1:Int)),(open_.getD (Int.toNat ((open_.length:Int) - (1:Int))) (NT.dft [.int .i64,.map])).2)) ((x10_.getD (Int.toNat x12_) (ET.dft .node)).kind) ((x10_.getD (Int.toNat x12_) (ET.dft .node)).kids)).bind fun o24=>(Sum.elim (fun (o24_0:Bool) =>
       some (.inr (.inl o24_0))) (fun (o24_1:(List (Int × MapC × Unit))) =>
       gd (qAe (x12_+(1:Int))) <|
       some (.inl ((x12_+(1:Int)),o24_1)))) o24)))))
 else (
  some (.inr (.inr open_)))
def zam_p0 (x11_ x12_:Int) (x10_:List Eng.Node) (open_:List (Int × MapC × Unit)):Option (Bool ⊕ ((List (Int × MapC × Unit)))) :=
 qA2 (fun x:(Int × (List (Int × MapC × Unit)))=>qCq x11_ x.1 x10_ x.2) (x12_,open_)
def zam_s (v:(List Eng.Node)):Option Bool :=
 (zam_p0 (v.length:Int) (0:Int) v [((1:Int),(none:MapC),())]).bind fun o25=>(Sum.elim (fun (o25_0:Bool) =>
  some o25_0) (fun (o25_1:(List (Int × MapC × Unit))) =>
  some (decide ((o25_1.length:Int)=(0:Int))))) o25
def zam_G:Nat→Option CQ:=tblQ [(78,zao_w),(79,qDn)]
theorem zam_Gok:∀f C,zam_G f=some C→qAf Tryd.prog f C:=qAl ⟨zao_ok,qFo,tV⟩
def zDJS1:=(qAb (dSO 10 (dO 0)) (qAb (dSO 11 dZ) (qAb (dSO 12 dZ) dNil)))
def zDJS2:=(qAb (qBs .node) (qAb (dBag [.int .i64,.map] 101) dNil))
def zam_d3:=(dQS (qAb (dSO 3 (dBsl 1)) zDJS1) zDJS2)
def zam_l3:SubQ:=mkL zam_d3 (fun x=>zam_p3 x.2.2.1) fun x r R kn kx kr=>kx 3 ⟨[sL 3 (.bsl 1),sL 10 (.own 0),sL 11 (.vI x.1.2.2.1),sL 12 (.vI x.1.2.2.2.1)],[],[.view .node x.2.1,.bag [.int .i64,.map] 101 r]⟩
def zam_d2:=(dQS (qAb (dSO 3 (dBsl 1)) zDJS1) zDJS2)
def zam_l2:SubQ:=mkL zam_d2 (fun x=>zam_p2 x.2.2.1) fun x r R kn kx kr=>kn ⟨[sL 3 (.bsl 1),sL 10 (.own 0),sL 11 (.vI x.1.2.2.1),sL 12 (.vI x.1.2.2.2.1)],[],[.view .node x.2.1,.bag [.int .i64,.map] 101 r]⟩
def zam_d1:=(dQS (qAb (dSO 3 (dBsl 1)) (qAb (dSO 5 (dH 2 0)) zDJS1)) (qAb (qBs .node) (qAb (dBag [.int .i64,.map] 101) (qAb (dCells 36 (qAb dZ (qAb dS (qAb dS (qAb dB (qAb dZ (qAb dZ dNil))))))) dNil))))
def zam_l1:SubQ:=mkL zam_d1 (fun x=>zam_p1 x.2.2.1 x.2.2.2.1.1 x.2.2.2.1.2.2.2.2.2.1) fun x r R kn kx kr=>(Sum.elim (fun (r_0:Bool)=>kr ⟨[sL 2 (.vB r_0)],[],[.view .node x.2.1]⟩) (fun (r_1:(List (Int × MapC × Unit)))=>kn ⟨[sL 3 (.bsl 1),sL 10 (.own 0),sL 11 (.vI x.1.2.2.2.1),sL 12 (.vI x.1.2.2.2.2.1)],[],[.view .node x.2.1,.bag [.int .i64,.map] 101 r_1]⟩)) r
def zam_d0:=(dQS (qAb (dSO 3 (dBsl 1)) zDJS1) zDJS2)
def zam_l0:SubQ:=mkL zam_d0 (fun x=>zam_p0 x.1.2.2.1 x.1.2.2.2.1 x.2.1 x.2.2.1) fun x r R kn kx kr=>(Sum.elim (fun (r_0:Bool)=>kr ⟨[sL 2 (.vB r_0)],[],[.view .node x.2.1]⟩) (fun (r_1:(List (Int × MapC × Unit)))=>kx 0 ⟨[sL 3 (.bsl 1)],[],[.view .node x.2.1,.bag [.int .i64,.map] 101 r_1]⟩)) r
def zam_L:Nat→SubQ:=tblL [(3,zam_l3),(2,zam_l2),(1,zam_l1),(0,zam_l0)]
theorem zam_sub3:qBz zam_L zam_G 1 13 120 3 zam_b3:=qAu (show zam_L 3=zam_l3 from by kernel_rfl) fun x R kn kx kr=>qAs (step:=fun y=>qEi y) (enc:=fun (y:(List (Int × MapC × Unit)))=>zam_d3.e (x.1,(x.2.1,y,x.2.2.2))) (fun y=>by kernel_rfl) (fun y ki=>by simp only [qEi,-eq_self,qAd,qAg,obA,obS,slL,slR,qAc]; kernel_rfl) x.2.2.1
theorem zam_sub2:qBz zam_L zam_G 1 13 120 2 zam_b2:=qAu (show zam_L 2=zam_l2 from by kernel_rfl) fun x R kn kx kr=>by
 simp only [zam_p2,-eq_self,qAd,qAg,obA,obS,slL,slR,qAc];kernel_rfl
theorem zam_sub1:qBz zam_L zam_G 1 13 120 1 zam_b1:=qAu (show zam_L 1=zam_l1 from by kernel_rfl) fun x R kn kx kr=>by
 simp only [zam_p1,-eq_self,qAd,qAg,obA,obS,slL,slR,qAc];kernel_rfl
theorem zam_sub0:qBz zam_L zam_G 1 13 120 0 zam_b0:=qAu (show zam_L 0=zam_l0 from by kernel_rfl) fun x R kn kx kr=>qAs (step:=fun y=>qCq x.1.2.2.1 y.1 x.2.1 y.2) (enc:=fun (y:Int × (List (Int × MapC × Unit)))=>zam_d0.e ((x.1.1,x.1.2.1,x.1.2.2.1,y.1,x.1.2.2.2.2),(x.2.1,y.2,x.2.2.2))) (fun y=>by kernel_rfl) (fun y ki=>by simp only [qCq,-eq_self,qAd,qAg,obA,obS,slL,slR,qAc]; kernel_rfl) (x.1.2.2.2.1,x.2.2.1)
theorem zam_subs:qAp zam_L zam_G 1 13 120 zam_q:=qAk (show qAr zam_L zam_G 1 13 120 [(0,zam_b0),(1,zam_b1),(2,zam_b2),(3,zam_b3)] from ⟨zam_sub0,zam_sub1,zam_sub2,zam_sub3,tV⟩)
def zam_da:=(qAb (dVC (dCO (dO 0))) dNil)
def zam_db:=(qAb (qBs .node) dNil)
def zam_c:CS:=mkC zam_da zam_db (fun x y=>zam_s y.1) (fun x y r=>.c (.o (.vB r))) fun x y r=>[.view .node y.1]
theorem zam_val:qAm Tryd.prog 39 zam_c:=qAo zam_chk 13 zam_Gok 1 (fun x=>Nat.le_of_ble_eq_true rfl) (fun y=>rfl) zam_subs fun x y=>by
 simp only [zam_s,-eq_self,qAd,qAg,obA,obS,slL,slR,qAc];kernel_rfl
def zam_w:CQ:=qB8 [(0,none,some (.node,36))] (qD4 [false] zam_c)
theorem zam_ok:qAf Tryd.prog 39 zam_w:=qEh zam_val
end
end Go.Proofs.YtdcoiccdbgcpaaaDoor
