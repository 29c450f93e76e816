/-
  The document's reading of escapes and strings: what they compute. No program.
-/
import Derived.Test.YtdcoiccdbgcpaaaDoorPDec
import Derived.Test.YtdcoiccdbgcpaaaDoorJS
import Derived.Test.YtdcoiccdbgcpaaaDoorEngO
import Derived.Test.YtdcoiccdbgcpaaaDoorProg
import Derived.Test.YtdcoiccdbgcpaaaDoorGC
import Derived.Test.YtdcoiccdbgcpaaaDoorPShaped
namespace Go.Proofs.YtdcoiccdbgcpaaaDoor
open Go.Eng
set_option linter.unusedVariables false
set_option linter.unusedSimpArgs false
instance memDec (s:BA):(l:List BA)→Decidable (s∈l)
 | []=>isFalse (by simp)
 | x::r=>if h:s=x then isTrue (by simp [h]) else match memDec s r with
  | isTrue h2=>isTrue (List.mem_cons_of_mem _ h2)
  | isFalse h2=>isFalse (by simp [h,h2])
theorem plain_both (n:Eng.Node) (hn:OkN n):∃b,zao_s n=some b∧qD0 n=some b∧(b=true→0≤n.kids∧(0<n.kids→6≤n.kind)∧n.kind≤7):=by
 obtain ⟨w,hw1,hw2⟩:=whole_eq n.text hn.text;have hv1:=p_Valid n.text hn.text;have hv2:=r_Valid n.text hn.text;have hu:=p_utf n.text hn.text;have hu2:qBa n.text=some (Lib.validD n.text.data.toList):=qAa (by have:=hn.text; omega) _;unfold zao_s qD0;have hc:((((decide (n.kind<(1:Int))) || (decide ((7:Int)<n.kind))) || (decide (n.kids<(0:Int)))) || (((decide ((0:Int)<n.kids)) && (!decide (n.kind=(6:Int)))) && (!decide (n.kind=(7:Int))))) =
   ((((decide (n.kind<(1:Int))) || (decide ((7:Int)<n.kind))) || (decide (n.kids<(0:Int)))) || ((decide ((0:Int)<n.kids)) && (decide (n.kind<(6:Int))))):=by
  rw [Bool.eq_iff_iff];simp only [Bool.or_eq_true,Bool.and_eq_true,decide_eq_true_eq,Bool.not_eq_true',decide_eq_false_iff_not];omega
 rw [hc,hw1,hw2,hv1,hv2,hu,hu2];simp only [obS];cases hd:((((decide (n.kind<(1:Int))) || (decide ((7:Int)<n.kind))) || (decide (n.kids<(0:Int)))) || ((decide ((0:Int)<n.kids)) && (decide (n.kind<(6:Int))))) with
 | true=>exact ⟨false,rfl,rfl,fun h=>by cases h⟩
 | false =>
  have hk:0≤n.kids∧(0<n.kids→6≤n.kind)∧n.kind≤7:=by
   simp only [Bool.or_eq_false_iff,Bool.and_eq_false_iff,decide_eq_false_iff_not] at hd;omega
  simp only [cnF];cases decide (n.kind=4) with
  | true =>
   refine ⟨_,rfl,?_,fun _=>hk⟩;simp only [cnT];rw [show (w.2 == n.whole)=(n.whole == w.2) from Bool.beq_comm,show decide (w.1=n.int)=decide (n.int=w.1) from decide_eq_decide.2 eq_comm]
  | false =>
   simp only [cnF];cases (n.whole || !decide (n.int=0)) with
   | true=>exact ⟨_,rfl,rfl,fun _=>hk⟩
   | false =>
    simp only [cnF];cases decide (n.kind=5) <;> exact ⟨_,rfl,rfl,fun _=>hk⟩
noncomputable def pB (n:Eng.Node):Bool:=(zao_s n).getD false
theorem pB_both {n:Eng.Node} (hn:OkN n):zao_s n=some (pB n)∧qD0 n=some (pB n)∧(pB n=true→0≤n.kids∧(0<n.kids→6≤n.kind)∧n.kind≤7):=by
 obtain ⟨b,h1,h2,h3⟩:=plain_both n hn;have:pB n=b:=by unfold pB; rw [h1]; rfl
 rw [this];exact ⟨h1,h2,h3⟩
noncomputable def okB (obj:Bool) (n:Eng.Node):Bool:=pB n && Lib.validD n.key.data.toList && (obj || decide (n.key=(⟨#[]⟩:BA)))
def keyAt (v:List Eng.Node) (a:Nat):BA:=(v.getD a (ET.dft .node)).key
noncomputable def kidsS (v:List Eng.Node) (one:Nat→Option Nat) (obj:Bool):Nat→Nat→List BA→Option Nat
 | 0,a,_=>some a
 | k+1,a,names =>
  match one a with
  | none=>none
  | some e=>if obj=true∧keyAt v a∈names then none else kidsS v one obj k e (names++[keyAt v a])
noncomputable def oneS (v:List Eng.Node):Nat→Bool→Nat→Option Nat
 | 0,obj,a =>
  match v[a]? with
  | none=>none
  | some n=>if okB obj n=true∧n.kind<6 then some (a+1) else none
 | d+1,obj,a =>
  match v[a]? with
  | none=>none
  | some n=>if okB obj n=true then kidsS v (oneS v d (decide (n.kind=7))) (decide (n.kind=7)) n.kids.toNat (a+1) [] else none
theorem kidsS_le {v:List Eng.Node} {one:Nat→Option Nat} {obj:Bool} (h:∀a e,one a=some e→a<e∧e≤v.length):∀(k a:Nat) (names:List BA) (e:Nat),a≤v.length→kidsS v one obj k a names=some e→a+k≤e∧e≤v.length
 | 0,a,names,e,ha,hk=>by
  cases hk;exact ⟨by omega,ha⟩
 | k+1,a,names,e,ha,hk=>by
  unfold kidsS at hk;cases ho:one a with
  | none=>rw [ho] at hk; cases hk
  | some b =>
   rw [ho] at hk;dsimp only at hk;split at hk
   ·cases hk
   ·have hb:=h a b ho;have:=kidsS_le h k b _ e hb.2 hk;omega
theorem qE0 (v:List Eng.Node):∀(d:Nat) (obj:Bool) (a e:Nat),oneS v d obj a=some e→a<e∧e≤v.length
 | 0,obj,a,e,h=>by
  unfold oneS at h;cases hv:v[a]? with
  | none=>rw [hv] at h; cases h
  | some n =>
   rw [hv] at h;dsimp only at h;have:=(List.getElem?_eq_some_iff.1 hv).1;split at h
   ·cases h; omega
   ·cases h
 | d+1,obj,a,e,h=>by
  unfold oneS at h;cases hv:v[a]? with
  | none=>rw [hv] at h; cases h
  | some n =>
   rw [hv] at h;dsimp only at h;have hlt:=(List.getElem?_eq_some_iff.1 hv).1;split at h
   ·have:=kidsS_le (fun a e=>qE0 v d _ a e) _ _ _ _ (by omega) h;omega
   ·cases h
abbrev Lv:=Int × MapC × Unit
def closeR:List Lv→List Lv
 | []=>[]
 | x::r=>if x.1=0 then closeR r else x::r
def closeS (S:List Lv):List Lv:=(closeR S.reverse).reverse
theorem qFq (B:List Lv) (x:Lv):closeS (B++[x])=if x.1=0 then closeS B else B++[x]:=by
 have e:(B++[x]).reverse=x::B.reverse:=by simp
 unfold closeS;rw [e];by_cases h:x.1=0
 ·rw [if_pos h,closeR,if_pos h]
 ·rw [if_neg h,closeR,if_neg h]; simp
theorem snoc_of (S:List Lv):S=[]∨∃B x,S=B++[x]:=by
 by_cases h:S=[]
 ·exact .inl h
 ·exact .inr ⟨S.dropLast,S.getLast h,(List.dropLast_concat_getLast h).symm⟩
theorem qDp (B:List Lv) (x:Lv):(B++[x]).length=B.length+1:=by simp
theorem snoc_toNat (B:List Lv) (x:Lv):Int.toNat (((B++[x]).length:Int) - 1)=B.length:=by rw [qDp]; omega
theorem snoc_getD (B:List Lv) (x d:Lv):(B++[x]).getD B.length d=x:=by simp [List.getD_eq_getElem?_getD]
theorem snoc_set (B:List Lv) (x y:Lv):(B++[x]).set B.length y=B++[y]:=by simp
theorem snoc_take (B:List Lv) (x:Lv):(B++[x]).take B.length=B:=by simp
theorem p3_step (B:List Lv) (x:Lv) (hB:B.length≤1000):qEi (B++[x])=if x.1=0 then some (.inl B) else some (.inr (B++[x])):=by
 unfold qEi;have hl:=qDp B x;rw [qAa (fun _=>by unfold qAe; omega),qAa (fun _=>by omega),qAa (fun _=>by rw [snoc_toNat]; omega),qAa (fun _=>by rw [snoc_toNat]; omega)];simp only [snoc_toNat,snoc_getD,snoc_take];rw [deT (by omega),Bool.true_and];by_cases h:x.1=0
 ·rw [if_pos h,deT h,cnT,qAa (by unfold qAe; omega),qAa (by omega)]
 ·rw [if_neg h,deF h,cnF]
theorem p3_close:∀(n:Nat) (S:List Lv),S.length≤n→S.length≤1000→zam_p3 S=some (closeS S)
 | n,S,hn,hS=>by
  rcases snoc_of S with rfl | ⟨B,x,rfl⟩
  ·unfold zam_p3;refine qAi ?_;unfold qEi;rw [qAa (fun h=>by simp at h),qAa (fun h=>by simp at h),qAa (fun h=>by simp at h),qAa (fun h=>by simp at h)];rfl
  ·rw [qDp] at hn hS;have hst:=p3_step B x (by omega);rw [qFq];cases n with
   | zero=>omega
   | succ n =>
    by_cases h:x.1=0
    ·rw [if_pos h] at hst ⊢;rw [←p3_close n B (by omega) (by omega)];unfold zam_p3;exact qAn hst
    ·rw [if_neg h] at hst ⊢;unfold zam_p3;exact qAi hst
theorem p2_close (S:List Lv) (hS:S.length≤1000):zam_p2 S=some (closeS S):=by
 unfold zam_p2;rw [p3_close S.length S (Nat.le_refl _) hS];rfl
theorem p1_is (S:List Lv) (hS:S.length≤900) (kind kids:Int):zam_p1 S kind kids =
  if kind=6∨kind=7 then (if 32<S.length then some (.inl false) else some (.inr (closeS (S++[(kids,if kind=7 then some [] else none,())])))) else some (.inr (closeS S)):=by
 unfold zam_p1;by_cases h:kind=6∨kind=7
 ·have:((decide (kind=(6:Int))) || (decide (kind=(7:Int))))=true:=by simpa using h
  rw [if_pos h,this,cnT];by_cases h32:32<S.length
  ·rw [if_pos h32,deT (by omega),cnT]
  ·rw [if_neg h32,deF (by omega),cnF];by_cases h7:kind=7
   ·rw [deT h7,cnT,qAa (by simp; omega),p2_close _ (by simp; omega),if_pos h7]; rfl
   ·rw [deF h7,cnF,qAa (by simp; omega),p2_close _ (by simp; omega),if_neg h7]; rfl
 ·have:((decide (kind=(6:Int))) || (decide (kind=(7:Int))))=false:=by
   rw [Bool.or_eq_false_iff,decide_eq_false_iff_not,decide_eq_false_iff_not];omega
  rw [if_neg h,this,cnF,p2_close _ (by omega)];rfl
theorem p0_step {v:List Eng.Node} (hv:OkL v) {a:Nat} {n:Eng.Node} (hn:v[a]?=some n) (B:List Lv) (l:Int) (nm:MapC) (hB:B.length≤40) (hl : -9223372036854775807≤l∧l≤9223372036854775807) :
  qCq (v.length:Int) (a:Int) v (B++[(l,nm,())]) =
   if (pB n && !((nm.isNone && !decide (n.key=(⟨#[]⟩:BA))) || decide (0<mget nm n.key) || !Lib.validD n.key.data.toList))=true then
    (zam_p1 (B++[(l - 1,mput nm n.key 1,())]) n.kind n.kids).bind fun o=>Sum.elim (fun b=>some (.inr (.inl b))) (fun S'=>some (.inl (((a+1:Nat):Int),S'))) o
   else some (.inr (.inl false)):=by
 have hlt:=(List.getElem?_eq_some_iff.1 hn).1;have hmem:n∈v:=by
  obtain ⟨h1,h2⟩:=List.getElem?_eq_some_iff.1 hn;rw [←h2]; exact List.getElem_mem h1
 have hget:=nd_get hn;have hlen:=hv.1;have hok:=hv.2 n hmem;have hsl:∀x:Lv,(B++[x]).length=B.length+1:=qDp B;have g1:∀ {R:Type} (k:Option R) (x:Lv),gd (qAe (((B++[x]).length:Int) - 1)) k=k:=fun k x=>qAa (by unfold qAe; rw [hsl]; omega) k
 have g2:∀ {R:Type} (k:Option R) (x:Lv),gd (0≤(((B++[x]).length:Int) - 1)∧(((B++[x]).length:Int) - 1)<(B++[x]).length) k=k:=fun k x=>qAa (by rw [hsl]; omega) k
 have g3:∀ {R:Type} (k:Option R) (x:Lv),gd (B.length<(B++[x]).length) k=k:=fun k x=>qAa (by rw [hsl]; omega) k
 have g4:∀ {R:Type} (k:Option R) (x:Lv) (c:Bool),gd (c=false→B.length<(B++[x]).length) k=k:=fun k x c=>qAa (fun _=>by rw [hsl]; omega) k
 have g5:∀ {R:Type} (k:Option R),gd (qAe (l - 1)) k=k:=fun k=>qAa (by unfold qAe; omega) k
 have g6:∀ {R:Type} (k:Option R),gd (qAe ((a:Int)+1)) k=k:=fun k=>qAa (by unfold qAe; omega) k
 have hvs:qBa n.key=some (Lib.validD n.key.data.toList):=qAa (by have:=hok.key; omega) _;unfold qCq;rw [deT (by omega),cnT,qAa (by omega),qAa (by omega),deF (by rw [hsl]; omega),cnF,Int.toNat_natCast,hget,(pB_both hok).1,obS];cases hp:pB n with
 | false=>rfl
 | true =>
  simp only [Bool.not_true,cnF,snoc_toNat,snoc_getD,snoc_set,g1,g2,g3,g4,g5,hvs,obS,Bool.true_and];cases hc:((nm.isNone && !decide (n.key=(⟨#[]⟩:BA))) || decide (0<mget nm n.key) || !Lib.validD n.key.data.toList) with
  | true=>rw [cnT]; rfl
  | false =>
   rw [cnF];simp only [Bool.not_false,if_true];cases nm with
   | none =>
    simp only [Option.isSome_none,cnF,g6];rfl
   | some m =>
    simp only [Option.isSome_some,cnT,g6,qAa];rfl
noncomputable def resS (v:List Eng.Node) (a:Nat) (S:List Lv):Option Bool :=
 (zam_p0 (v.length:Int) (a:Int) v S).bind fun o=>some (Sum.elim id (fun S=>decide ((S.length:Int)=0)) o)
theorem resS_next {v:List Eng.Node} {a:Nat} {S S':List Lv} (h:qCq (v.length:Int) (a:Int) v S=some (.inl (((a+1:Nat):Int),S'))):resS v a S=resS v (a+1) S':=by
 unfold resS zam_p0;rw [qAn h]
theorem qFl {v:List Eng.Node} {a:Nat} {S:List Lv} {o:Bool ⊕ List Lv} (h:qCq (v.length:Int) (a:Int) v S=some (.inr o)):resS v a S=some (Sum.elim id (fun S=>decide ((S.length:Int)=0)) o):=by
 unfold resS zam_p0;rw [qAi h];rfl
theorem resS_end {v:List Eng.Node} {a:Nat} (S:List Lv) (h:v.length≤a):resS v a S=some (decide ((S.length:Int)=0)):=by
 refine qFl (o:=.inr S) ?_;unfold qCq;rw [deF (by omega),cnF]
structure NmR (obj:Bool) (nm:MapC) (names:List BA):Prop where
 some_:nm.isSome=obj
 mem:∀s,obj=true→(0<mget nm s↔s∈names)
theorem mfind_mset (l:List (BA × Int)) (s t:BA) (x:Int):mfind (mset l s x) t=if t=s then some x else mfind l t:=by
 induction l with
 | nil =>
  show (bif decide (t=s) then some x else none)=_;by_cases h:t=s
  ·rw [if_pos h,deT h]; rfl
  ·rw [if_neg h,deF h]; rfl
 | cons y r ih =>
  unfold mset;by_cases hs:s=y.1
  ·rw [deT hs,cnT];show (bif decide (t=s) then some x else mfind r t)=_;by_cases h:t=s
   ·rw [if_pos h,deT h]; rfl
   ·rw [if_neg h,deF h,cnF];show mfind r t=(bif decide (t=y.1) then some y.2 else mfind r t);rw [deF (by rw [←hs]; exact h),cnF]
  ·rw [deF hs,cnF];unfold mfind;rw [ih];by_cases hy:t=y.1
   ·rw [deT hy,cnT,cnT,if_neg (by rw [hy]; exact fun h=>hs h.symm)]
   ·rw [deF hy,cnF,cnF]
theorem NmR.put {obj:Bool} {nm:MapC} {names:List BA} (h:NmR obj nm names) (s:BA):NmR obj (mput nm s 1) (names++[s]):=by
 cases nm with
 | none =>
  refine ⟨h.some_,fun t ht=>?_⟩;have:=h.some_;rw [ht] at this;cases this
 | some l =>
  refine ⟨h.some_,fun t ht=>?_⟩;have h2:=h.mem t ht;show 0<(mfind (mset l s 1) t).getD 0↔_;rw [mfind_mset,List.mem_append,List.mem_singleton];by_cases hts:t=s
  ·rw [if_pos hts];exact ⟨fun _=>.inr hts,fun _=>by decide⟩
  ·rw [if_neg hts];exact ⟨fun h=>.inl (h2.1 h),fun h=>h2.2 (h.resolve_right hts)⟩
def OneSim (v:List Eng.Node) (d:Nat):Prop:=∀(B:List Lv) (l:Int) (nm:MapC) (obj:Bool) (names:List BA) (a:Nat),B.length+1+d=33→1≤l∧l≤9223372036854775807→NmR obj nm names →
 resS v a (B++[(l,nm,())])=match oneS v d obj a with
  | none=>some false
  | some e=>if obj=true∧keyAt v a∈names then some false else resS v e (closeS (B++[(l - 1,mput nm (keyAt v a) 1,())]))
theorem kids_sim {v:List Eng.Node} {d:Nat} (hA:OneSim v d) (B:List Lv) (obj:Bool) (hB:B.length+1+d=33):∀(k a:Nat) (nm:MapC) (names:List BA),((k+1:Nat):Int)≤9223372036854775807→NmR obj nm names →
  resS v a (B++[(((k+1:Nat):Int),nm,())])=match kidsS v (oneS v d obj) obj (k+1) a names with
   | none=>some false
   | some e=>resS v e (closeS B):=by
 have key:∀(k a:Nat) (nm:MapC) (names:List BA) (l:Int),l=(k:Int)+1→(k:Int)≤9000000000000000000+223372036854775806→NmR obj nm names →
   resS v a (B++[(l,nm,())])=match kidsS v (oneS v d obj) obj (k+1) a names with
    | none=>some false
    | some e=>resS v e (closeS B):=by
  intro k;induction k with
  | zero =>
   intro a nm names l hl hk hnm;rw [hA B _ nm obj names a hB (by omega) hnm];unfold kidsS;cases ho:oneS v d obj a with
   | none=>rfl
   | some e =>
    dsimp only;by_cases hd:obj=true∧keyAt v a∈names
    ·rw [if_pos hd,if_pos hd]
    ·rw [if_neg hd,if_neg hd,qFq,if_pos (by show l - 1=0; omega)];rfl
  | succ k ih =>
   intro a nm names l hl hk hnm;rw [hA B _ nm obj names a hB (by omega) hnm];unfold kidsS;cases ho:oneS v d obj a with
   | none=>rfl
   | some e =>
    dsimp only;by_cases hd:obj=true∧keyAt v a∈names
    ·rw [if_pos hd,if_pos hd]
    ·rw [if_neg hd,if_neg hd,qFq,if_neg (by show ¬(l - 1=0); omega)];exact ih e _ _ (l - 1) (by omega) (by omega) (hnm.put _)
 intro k a nm names hk hnm;exact key k a nm names _ (by omega) (by omega) hnm
theorem one_sim {v:List Eng.Node} (hv:OkL v):∀d:Nat,d≤32→OneSim v d:=by
 intro d;induction d with
 | zero =>
  intro hd B l nm obj names a hB hl hnm;by_cases ha:a<v.length
  ·obtain ⟨n,hn,hmem,hget⟩:=nd_some ha;have hk:keyAt v a=n.key:=by unfold keyAt; rw [hget]
   have hst:=p0_step hv hn B l nm (by omega) (by omega);have hpp:=(pB_both (hv.2 n hmem)).2.2;unfold oneS;rw [hn];dsimp only;rw [hk];have hcond:(pB n && !((nm.isNone && !decide (n.key=(⟨#[]⟩:BA))) || decide (0<mget nm n.key) || !Lib.validD n.key.data.toList))=(okB obj n && !(obj && decide (n.key∈names))):=by
    unfold okB;rw [←hnm.some_];cases hnn:nm with
    | none =>
     have:mget (none:MapC) n.key=0:=rfl;rw [this];cases pB n <;> cases Lib.validD n.key.data.toList <;> cases decide (n.key=(⟨#[]⟩:BA)) <;> rfl
    | some m =>
     have hm:=hnm.mem n.key (by rw [←hnm.some_,hnn]; rfl);rw [hnn] at hm;rw [show decide (0<mget (some m) n.key)=decide (n.key∈names) from decide_eq_decide.2 hm];cases pB n <;> cases Lib.validD n.key.data.toList <;> cases decide (n.key=(⟨#[]⟩:BA)) <;> cases decide (n.key∈names) <;> rfl
   rw [hcond] at hst;cases hok:okB obj n with
   | false =>
    rw [hok,if_neg (by simp)] at hst;rw [qFl hst,if_neg (fun h=>by cases h.1)];rfl
   | true =>
    by_cases hdup:obj=true∧n.key∈names
    ·rw [hok,if_neg (by simp [hdup.1,hdup.2])] at hst;rw [qFl hst];split <;> first | rfl | (rw [if_pos hdup]; rfl)
    ·rw [hok,if_pos (by simp only [Bool.true_and,Bool.not_eq_true',Bool.and_eq_false_iff,decide_eq_false_iff_not]; cases obj <;> simp_all),p1_is _ (by rw [qDp]; omega)] at hst
     have hpb:pB n=true:=by unfold okB at hok; simp only [Bool.and_eq_true] at hok; exact hok.1.1
     have hz:=hpp hpb;by_cases h6:n.kind<6
     ·rw [if_neg (by omega)] at hst;rw [if_pos ⟨rfl,h6⟩,resS_next hst];dsimp only;rw [if_neg hdup]
     ·rw [if_pos (by omega),if_pos (by rw [qDp]; omega)] at hst;rw [if_neg (fun h=>h6 h.2),qFl hst];rfl
  ·rw [resS_end _ (by omega),qDp];unfold oneS;rw [List.getElem?_eq_none (by omega)];dsimp only;rw [deF (by omega)]
 | succ d ih =>
  intro hd B l nm obj names a hB hl hnm;by_cases ha:a<v.length
  ·obtain ⟨n,hn,hmem,hget⟩:=nd_some ha;have hk:keyAt v a=n.key:=by unfold keyAt; rw [hget]
   have hst:=p0_step hv hn B l nm (by omega) (by omega);have hpp:=(pB_both (hv.2 n hmem)).2.2;have hki:=(hv.2 n hmem).kids;unfold qAe at hki;unfold oneS;rw [hn];dsimp only;rw [hk];have hcond:(pB n && !((nm.isNone && !decide (n.key=(⟨#[]⟩:BA))) || decide (0<mget nm n.key) || !Lib.validD n.key.data.toList))=(okB obj n && !(obj && decide (n.key∈names))):=by
    unfold okB;rw [←hnm.some_];cases hnn:nm with
    | none =>
     have:mget (none:MapC) n.key=0:=rfl;rw [this];cases pB n <;> cases Lib.validD n.key.data.toList <;> cases decide (n.key=(⟨#[]⟩:BA)) <;> rfl
    | some m =>
     have hm:=hnm.mem n.key (by rw [←hnm.some_,hnn]; rfl);rw [hnn] at hm;rw [show decide (0<mget (some m) n.key)=decide (n.key∈names) from decide_eq_decide.2 hm];cases pB n <;> cases Lib.validD n.key.data.toList <;> cases decide (n.key=(⟨#[]⟩:BA)) <;> cases decide (n.key∈names) <;> rfl
   rw [hcond] at hst;cases hok:okB obj n with
   | false =>
    rw [hok,if_neg (by simp)] at hst;rw [qFl hst,if_neg (fun h=>by cases h)];rfl
   | true =>
    rw [if_pos rfl];by_cases hdup:obj=true∧n.key∈names
    ·rw [hok,if_neg (by simp [hdup.1,hdup.2])] at hst;rw [qFl hst];split <;> first | rfl | (rw [if_pos hdup]; rfl)
    ·rw [hok,if_pos (by simp only [Bool.true_and,Bool.not_eq_true',Bool.and_eq_false_iff,decide_eq_false_iff_not]; cases obj <;> simp_all),p1_is _ (by rw [qDp]; omega)] at hst
     have hpb:pB n=true:=by unfold okB at hok; simp only [Bool.and_eq_true] at hok; exact hok.1.1
     have hz:=hpp hpb;simp only [if_neg hdup];by_cases h6:n.kind<6
     ·rw [if_neg (by omega)] at hst;rw [show n.kids.toNat=0 by omega,resS_next hst];rfl
     ·rw [if_pos (by omega),if_neg (by rw [qDp]; omega)] at hst;rw [resS_next hst,qFq];obtain ⟨kk,hkk⟩:=Int.eq_ofNat_of_zero_le hz.1;rw [hkk,show ((kk:Int)).toNat=kk from rfl];cases kk with
      | zero =>
       rw [if_pos (by rfl)];rfl
      | succ kk =>
       rw [if_neg (by show ¬((((kk+1:Nat)):Int)=0); omega)];have:=kids_sim (ih (by omega)) (B++[(l - 1,mput nm n.key 1,())]) (decide (n.kind=7)) (by rw [qDp]; omega) kk (a+1) (if n.kind=7 then some [] else none) [] (by omega)
        ⟨by by_cases h7:n.kind=7 <;> simp [h7],fun s hs=>by
         rw [if_pos (of_decide_eq_true hs)];exact ⟨fun h=>absurd (show (0:Int)<0 from h) (by decide),fun h=>(by cases h)⟩⟩
       exact this
  ·rw [resS_end _ (by omega),qDp];unfold oneS;rw [List.getElem?_eq_none (by omega)];dsimp only;rw [deF (by omega)]
theorem prog_Shaped {v:List Eng.Node} (hv:OkL v):zam_s v=some (decide (oneS v 32 false 0=some v.length)):=by
 have h0:zam_s v=resS v 0 [((1:Int),(none:MapC),())]:=by
  unfold zam_s resS;rw [show ((0:Nat):Int)=0 from rfl];congr 1
  funext o
  cases o <;> rfl
 rw [h0];have:=one_sim hv 32 (Nat.le_refl _) [] 1 none false [] 0 rfl (by omega) ⟨rfl,fun s h=>by cases h⟩;rw [List.nil_append] at this;rw [this];cases ho:oneS v 32 false 0 with
 | none=>simp
 | some e =>
  dsimp only;have he:=qE0 v 32 false 0 e ho;rw [if_neg (fun h=>by cases h.1)];have hc:closeS ([]++[((1:Int) - 1,mput none (keyAt v 0) 1,())])=[]:=by
   rw [qFq,if_pos (by rfl)]; rfl
  rw [hc];by_cases hl:e<v.length
  ·rw [qFl (o:=.inl false)]
   ·rw [deF (by simp; omega)]; rfl
   ·unfold qCq;rw [deT (by omega),cnT,qAa (by omega),qAa (by omega)];rfl
  ·have:e=v.length:=by omega
   rw [resS_end _ (by omega),this];simp
inductive Rd (α:Type)
 | ok (b:Nat) (x:α)
 | bad (c:Int) (b:Nat)
def qEm (c:Int):Bool:=decide (c=32) || decide (c=9) || decide (c=10) || decide (c=13)
theorem qEl {t:BA} {a:Nat} (h:qEm (bAt t a)=true):a<t.size:=by
 unfold qEm at h;simp only [Bool.or_eq_true,decide_eq_true_eq] at h;have:=(qEs (s:=t) (i:=a) (by omega)).2;omega
def skipN (t:BA):Nat→Nat→Nat
 | 0,a=>a
 | n+1,a=>if qEm (bAt t (a:Int))=true then skipN t n (a+1) else a
@[irreducible] def qA4 (t:BA) (a:Nat):Nat:=skipN t (t.size - a) a
theorem skipS_yes {t:BA} {a:Nat} (h:qEm (bAt t a)=true):qA4 t a=qA4 t (a+1):=by
 have:=qEl h;unfold qA4;rw [show t.size - a=(t.size - (a+1))+1 by omega];show (if qEm (bAt t (a:Int))=true then _ else _)=_;rw [if_pos h]
theorem skipS_no {t:BA} {a:Nat} (h:qEm (bAt t a)=false):qA4 t a=a:=by
 unfold qA4;cases t.size - a with
 | zero=>rfl
 | succ n =>
  show (if qEm (bAt t (a:Int))=true then _ else _)=_;rw [if_neg (by rw [h]; decide)]
theorem qC1 (t:BA) (a:Nat):a≤qA4 t a:=by
 by_cases h:qEm (bAt t a)=true
 ·rw [skipS_yes h];have:=qC1 t (a+1);omega
 ·rw [skipS_no (by simpa using h)];exact Nat.le_refl _
termination_by t.size - a
decreasing_by have:=qEl h; omega
theorem qB6 (t:BA) (a:Nat) (ha:a≤t.size):qA4 t a≤t.size:=by
 by_cases h:qEm (bAt t a)=true
 ·rw [skipS_yes h];exact qB6 t (a+1) (by have:=qEl h; omega)
 ·rw [skipS_no (by simpa using h)];exact ha
termination_by t.size - a
decreasing_by have:=qEl h; omega
def digR (t:BA) (a:Nat):Rd Unit:=if qC4 t a=a then .bad 31 a else .ok (qC4 t a) ()
def litR (t:BA) (w:List Int) (a:Nat):Rd Unit :=
 match w with
 | []=>.ok a ()
 | c::w=>if bAt t a=c then litR t w (a+1) else .bad 31 a
def hexS (c:Int):Int:=if 48≤c∧c≤57 then c - 48 else if 97≤c∧c≤102 then c - 97+10 else if 65≤c∧c≤70 then c - 65+10 else -1
def hexBad (half:Bool) (i:Nat) (u d:Int):Prop:=d<0∨(half=true∧(i=0∧d≠13∨i=1∧d<12))∨(half=false∧i=1∧u=13∧12≤d)
instance (half:Bool) (i:Nat) (u d:Int):Decidable (hexBad half i u d):=by unfold hexBad; exact inferInstance
def fourR (t:BA) (half:Bool) (from_:Nat):Nat→Nat→Nat→Int→Rd Int
 | 0,_,a,u=>.ok a u
 | m+1,i,a,u=>if bAt t a<0 then .bad 31 t.size else if hexBad half i u (hexS (bAt t a)) then .bad 33 from_ else fourR t half from_ m (i+1) (a+1) (16*u+hexS (bAt t a))
def pairR (t:BA) (from_:Nat) (a:Nat) (u:Int):Rd Int :=
 if bAt t a<0 then .bad 31 t.size
 else if bAt t a≠92 then .bad 33 from_
 else if bAt t (a+1:Nat)<0 then .bad 31 t.size
 else if bAt t (a+1:Nat)≠117 then .bad 33 from_
 else match fourR t true from_ 4 0 (a+2) 0 with
  | .bad c b=>.bad c b
  | .ok b w=>.ok b (65536+1024*(u - 55296)+w - 56320)
def saidS (c:Int):Int:=if c=34∨c=92∨c=47 then c else if c=98 then 8 else if c=102 then 12 else if c=110 then 10 else if c=114 then 13 else if c=116 then 9 else -1
def escR (t:BA) (a:Nat):Rd Int :=
 if bAt t (a+1:Nat)<0 then .bad 31 t.size
 else if bAt t (a+1:Nat)=117 then
  match fourR t false a 4 0 (a+2) 0 with
  | .bad c b=>.bad c b
  | .ok b u=>if u<55296∨57343<u then .ok b u else pairR t a b u
 else if saidS (bAt t (a+1:Nat))<0 then .bad 33 a
 else .ok (a+2) (saidS (bAt t (a+1:Nat)))
def utfL (u:Int):List Int :=
 if u<128 then [u] else if u<2048 then [192+u / 64,128+u % 64] else if u<65536 then [224+u / 4096,128+u / 64 % 64,128+u % 64]
 else [240+u / 262144,128+u / 4096 % 64,128+u / 64 % 64,128+u % 64]
def quoR (t:BA):Nat→Nat→List Int→Rd (List Int)
 | 0,a,_=>.bad 31 a
 | n+1,a,acc =>
  if bAt t a<32 then .bad 31 a
  else if bAt t a=34 then .ok (a+1) acc
  else if bAt t a=92 then
   match escR t a with
   | .bad c b=>.bad c b
   | .ok b u=>quoR t n b (acc++utfL u)
  else if bAt t a<128 then quoR t n (a+1) (acc++[bAt t a])
  else if seqK t a=0 then quoR t n (a+seqW t a) (acc++qAq (t.extract a (a+seqW t a)))
  else .bad (seqK t a) (if seqK t a=31 then t.size else a)
def signS (t:BA) (a:Nat):Nat:=if bAt t a=45 then a+1 else a
def zeroR (t:BA) (a:Nat):Rd Unit:=if bAt t a=48 then .ok (a+1) () else digR t a
def dotR (t:BA) (a:Nat):Rd Unit:=if bAt t a=46 then digR t (a+1) else .ok a ()
def powR (t:BA) (a:Nat):Rd Unit :=
 if bAt t a=101∨bAt t a=69 then digR t (if bAt t (a+1:Nat)=43∨bAt t (a+1:Nat)=45 then a+2 else a+1) else .ok a ()
def numR (t:BA) (a:Nat):Rd Unit :=
 match zeroR t (signS t a) with
 | .bad c b=>.bad c b
 | .ok b _ =>
  match dotR t b with
  | .bad c b=>.bad c b
  | .ok b _=>powR t b
def nd0 (k:Int) (x:BA) (w:Bool) (i:Int) (n:Int):Eng.Node:=⟨k,(⟨#[]⟩:BA),x,w,i,n⟩
noncomputable def scalR (t:BA) (a:Nat):Rd (List Eng.Node) :=
 if bAt t a=34 then match quoR t (t.size+1) (a+1) [] with
  | .bad c b=>.bad c b
  | .ok b l=>.ok b [nd0 5 (qBk l) false 0 0]
 else if bAt t a=45∨(48≤bAt t a∧bAt t a≤57) then match numR t a with
  | .bad c b=>.bad c b
  | .ok b _=>.ok b [nd0 4 (t.extract a b) (qDj (t.extract a b)).2 (qDj (t.extract a b)).1 0]
 else if bAt t a=110 then match litR t [110,117,108,108] a with
  | .bad c b=>.bad c b
  | .ok b _=>.ok b [nd0 1 ⟨#[]⟩ false 0 0]
 else if bAt t a=102 then match litR t [102,97,108,115,101] a with
  | .bad c b=>.bad c b
  | .ok b _=>.ok b [nd0 2 ⟨#[]⟩ false 0 0]
 else if bAt t a=116 then match litR t [116,114,117,101] a with
  | .bad c b=>.bad c b
  | .ok b _=>.ok b [nd0 3 ⟨#[]⟩ false 0 0]
 else .bad 31 a
def qGe (k:BA):List Eng.Node→List Eng.Node
 | []=>[]
 | n::r=>⟨n.kind,k,n.text,n.whole,n.int,n.kids⟩::r
def qG1 (t:BA) (val:Nat→Rd (List Eng.Node)) (obj:Bool) (names:List BA) (a:Nat):Rd (BA × List Eng.Node) :=
 if obj then
  if bAt t a=34 then match quoR t (t.size+1) (a+1) [] with
   | .bad c b=>.bad c b
   | .ok b l =>
    if qBk l∈names then .bad 34 a
    else if bAt t (qA4 t b)=58 then match val (qA4 t (qA4 t b+1)) with
     | .bad c b=>.bad c b
     | .ok b x=>.ok b (qBk l,qGe (qBk l) x)
    else .bad 31 (qA4 t b)
  else .bad 31 a
 else match val a with
  | .bad c b=>.bad c b
  | .ok b x=>.ok b (⟨#[]⟩,x)
def lastC (obj:Bool):Int:=if obj then 125 else 93
def rowR (t:BA) (val:Nat→Rd (List Eng.Node)) (obj:Bool):Nat→Nat→Nat→List Eng.Node→List BA→Rd (Nat × List Eng.Node)
 | 0,a,_,_,_=>.bad 31 a
 | m+1,a,k,acc,names =>
  match qG1 t val obj names a with
  | .bad c b=>.bad c b
  | .ok b x =>
   if bAt t (qA4 t b)=lastC obj then .ok (qA4 t b+1) (k+1,acc++x.2)
   else if bAt t (qA4 t b)=44 then rowR t val obj m (qA4 t (qA4 t b+1)) (k+1) (acc++x.2) (names++[x.1])
   else .bad 31 (qA4 t b)
def kindC (obj:Bool):Int:=if obj then 7 else 6
def boxR (t:BA) (val:Nat→Rd (List Eng.Node)) (obj:Bool) (a:Nat):Rd (List Eng.Node) :=
 if bAt t (qA4 t (a+1))=lastC obj then .ok (qA4 t (a+1)+1) [nd0 (kindC obj) ⟨#[]⟩ false 0 0]
 else match rowR t val obj (t.size+1) (qA4 t (a+1)) 0 [] [] with
  | .bad c b=>.bad c b
  | .ok b x=>.ok b (nd0 (kindC obj) ⟨#[]⟩ false 0 x.1::x.2)
noncomputable def valR (t:BA):Nat→Nat→Rd (List Eng.Node)
 | 0,a=>if bAt t a=91∨bAt t a=123 then .bad 11 a else scalR t a
 | d+1,a=>if bAt t a=91∨bAt t a=123 then boxR t (valR t d) (decide (bAt t a=123)) a else scalR t a
noncomputable def readR (t:BA):Rd (List Eng.Node) :=
 match valR t 32 (qA4 t 0) with
 | .bad c b=>.bad c b
 | .ok b l=>if qA4 t b<t.size then .bad 31 (qA4 t b) else .ok (qA4 t b) l
theorem qB1 {t:BA} {a:Nat} (h:0≤bAt t a):a<t.size:=by
 have:=(qEs h).2;omega
theorem digR_adv {t:BA} {a b:Nat} {x:Unit} (ha:a≤t.size) (h:digR t a=.ok b x):a<b∧b≤t.size∧b=qC4 t a:=by
 unfold digR at h;have h1:=manyS_ge t a;have h2:=manyS_le t a ha;split at h
 ·cases h
 ·cases h;omega
theorem litR_adv {t:BA}:∀ {w:List Int} {a b:Nat} {x:Unit},(∀c∈w,0≤c)→litR t w a=.ok b x→b=a+w.length∧(w≠[]→b≤t.size)
 | [],a,b,x,_,h=>by
  cases h;exact ⟨rfl,fun h=>(h rfl).elim⟩
 | c::w,a,b,x,hc,h=>by
  unfold litR at h;split at h
  ·rename_i h1;have h2:=litR_adv (fun c hc'=>hc c (List.mem_cons_of_mem _ hc')) h;have h3:=qB1 (t:=t) (a:=a) (by rw [h1]; exact hc c List.mem_cons_self);refine ⟨by rw [h2.1,List.length_cons]; omega,fun _=>?_⟩;cases w with
   | nil=>rw [h2.1]; exact h3
   | cons _ _=>exact h2.2 (by simp)
  ·cases h
theorem qG2 (c:Int) : -1≤hexS c∧hexS c≤15:=by
 unfold hexS;repeat' split
 all_goals omega
theorem fourR_ok {t:BA} {half:Bool} {f a b:Nat} {u:Int} (h:fourR t half f 4 0 a 0=.ok b u) :
  b=a+4∧b≤t.size∧0≤u∧u≤65535∧(half=true→56320≤u∧u≤57343)∧(half=false→¬(56320≤u∧u≤57343)):=by
 have r0:=qG2 (bAt t a);have r1:=qG2 (bAt t (a+1:Nat));have r2:=qG2 (bAt t (a+1+1:Nat));have r3:=qG2 (bAt t (a+1+1+1:Nat));simp only [fourR] at h;split at h
 ·cases h
 split at h
 ·cases h
 rename_i n0 b0;split at h
 ·cases h
 split at h
 ·cases h
 rename_i n1 b1;split at h
 ·cases h
 split at h
 ·cases h
 rename_i n2 b2;split at h
 ·cases h
 split at h
 ·cases h
 rename_i n3 b3;have h3:=qB1 (t:=t) (a:=a+1+1+1) (by omega);simp only [Rd.ok.injEq] at h;obtain ⟨rfl,rfl⟩:=h;unfold hexBad at b0 b1 b2 b3;simp only [not_or] at b0 b1 b2 b3;refine ⟨rfl,by omega,by omega,by omega,fun hh=>?_,fun hh=>?_⟩
 ·subst hh;simp only [true_and,Nat.zero_add] at b0 b1;omega
 ·subst hh;simp only [true_and,Nat.zero_add] at b0 b1;omega
theorem saidS_range (c:Int) : -1≤saidS c∧saidS c≤116:=by
 unfold saidS;repeat' split
 all_goals omega
def Code (u:Int):Prop:=0≤u∧u≤1114111∧¬(55296≤u∧u≤57343)
theorem escR_ok {t:BA} {a b:Nat} {u:Int} (h:escR t a=.ok b u):a<b∧b≤t.size∧Code u:=by
 unfold escR at h;have hr:=saidS_range (bAt t (a+1:Nat));split at h
 ·cases h
 ·rename_i h0;have hl:=qB1 (t:=t) (a:=a+1) (by omega);split at h
  ·split at h
   ·cases h
   ·rename_i b' u' hf;have h4:=fourR_ok hf;have h5:=h4.2.2.2.2.2 rfl;split at h
    ·cases h;exact ⟨by omega,h4.2.1,by unfold Code; omega⟩
    ·unfold pairR at h;repeat' split at h
     all_goals first | (cases h; done) | skip
     rename_i hw;have h6:=fourR_ok hw;have h7:=h6.2.2.2.2.1 rfl;cases h;exact ⟨by omega,h6.2.1,by unfold Code; omega⟩
  ·split at h
   ·cases h
   ·cases h;exact ⟨by omega,by omega,by unfold Code; omega⟩
theorem utfL_range {u:Int} (h:Code u):∀x∈utfL u,0≤x∧x<256:=by
 unfold Code at h;unfold utfL;intro x hx;repeat' split at hx
 all_goals
  simp only [List.mem_cons,List.not_mem_nil,or_false] at hx;omega
theorem utfL_len (u:Int):1≤(utfL u).length∧(utfL u).length≤4:=by
 unfold utfL;repeat' split
 all_goals simp
theorem bytesL_range' (s:BA):∀x∈qAq s,0≤x∧x<256:=by
 intro x hx;unfold qAq at hx;rw [List.mem_map] at hx;obtain ⟨b,_,rfl⟩:=hx;have:=b.toNat_lt;omega
theorem quoR_ok {t:BA}:∀ {n a b:Nat} {acc l:List Int},quoR t n a acc=.ok b l→(∀x∈acc,0≤x∧x<256)→a<b∧b≤t.size∧(∀x∈l,0≤x∧x<256)∧l.length≤acc.length+4*(b - a)
 | 0,a,b,acc,l,h,_=>by cases h
 | n+1,a,b,acc,l,h,hacc=>by
  unfold quoR at h;split at h
  ·cases h
  ·rename_i h0;have ha:=qB1 (t:=t) (a:=a) (by omega);split at h
   ·cases h;exact ⟨by omega,by omega,hacc,by omega⟩
   ·split at h
    ·split at h
     ·cases h
     ·rename_i b' u he;have h1:=escR_ok he;have h2:=quoR_ok h (by
       intro x hx;rcases List.mem_append.1 hx with hx | hx
       ·exact hacc x hx
       ·exact utfL_range h1.2.2 x hx)
      have h3:=utfL_len u;rw [List.length_append] at h2;exact ⟨by omega,h2.2.1,h2.2.2.1,by omega⟩
    ·split at h
     ·have hb:=qFk t a;have h2:=quoR_ok h (by
       intro x hx;rcases List.mem_append.1 hx with hx | hx
       ·exact hacc x hx
       ·rw [List.mem_singleton.1 hx]; omega)
      rw [List.length_append,List.length_singleton] at h2;exact ⟨by omega,h2.2.1,h2.2.2.1,by omega⟩
     ·split at h
      ·rename_i hk;have hw:=seqW_in ha (by have:=by8_in ha; omega) hk;have h2:=quoR_ok h (by
        intro x hx;rcases List.mem_append.1 hx with hx | hx
        ·exact hacc x hx
        ·exact bytesL_range' _ x hx)
       have h3:(qAq (t.extract a (a+seqW t a))).length≤4:=by
        unfold qAq;rw [List.length_map,Array.length_toList];show (t.extract a (a+seqW t a)).size≤4;rw [ByteArray.size_extract];omega
       rw [List.length_append] at h2;exact ⟨by omega,h2.2.1,h2.2.2.1,by omega⟩
      ·cases h
set_option maxRecDepth 100000
theorem qCa {α:Type} {c:Bool} {p:Prop} [Decidable p] (h:c=true↔p) (x y:α):(bif c then x else y)=if p then x else y:=by
 by_cases hp:p
 ·rw [if_pos hp,h.2 hp,cnT]
 ·rw [if_neg hp];cases c with
  | false=>rfl
  | true=>exact (hp (h.1 rfl)).elim
theorem blank_cond (t:BA) (a:Nat):((decide ((a:Int)<(t.size:Int))) && ((((decide ((bAt t a)=(32:Int))) || (decide ((bAt t a)=(9:Int)))) || (decide ((bAt t a)=(10:Int)))) || (decide ((bAt t a)=(13:Int)))))=qEm (bAt t a):=by
 by_cases h:a<t.size
 ·rw [deT (by omega),Bool.true_and];rfl
 ·rw [deF (by omega),Bool.false_and,qBy (by omega)];rfl
theorem digR_code {t:BA} {a b:Nat} {c:Int} (h:digR t a=.bad c b):c=31:=by
 unfold digR at h;split at h
 ·cases h; rfl
 ·cases h
theorem wholeV_is (s:BA) (hs:s.size≤3000000):qCd s=some (qDj s)∧zab_s s=some (qDj s):=by
 exact (whole_is s hs).symm
theorem ext_le (t:BA) (a b:Nat) (hs:t.size≤3000000):(t.extract a b).size≤3000000:=by
 rw [ByteArray.size_extract];omega
theorem bytesL_cons {s:BA} {i:Nat} (h:i<s.size):(qAq s).drop i=bAt s i::(qAq s).drop (i+1):=by
 have hl:i<(qAq s).length:=by simp only [qAq,List.length_map,Array.length_toList]; exact h
 rw [List.drop_eq_getElem_cons hl];congr 1
 rw [bAt_in h];simp only [qAq,List.getElem_map];rfl
theorem litR_code {t:BA}:∀ {w:List Int} {a b:Nat} {c:Int},litR t w a=.bad c b→c=31
 | [],_,_,_,h=>by cases h
 | _::w,a,b,c,h=>by
  unfold litR at h;split at h
  ·exact litR_code h
  ·cases h; rfl
theorem u8_mod' {x:Int} (h:0≤x∧x<256):x % 256=x:=by omega
theorem fourR_code {t:BA} {hf:Bool} {f:Nat}:∀ {m i a b:Nat} {u c:Int},fourR t hf f m i a u=.bad c b→c=31∨c=33
 | 0,_,_,_,_,_,h=>by cases h
 | m+1,i,a,b,u,c,h=>by
  unfold fourR at h;split at h
  ·cases h; exact .inl rfl
  ·split at h
   ·cases h; exact .inr rfl
   ·exact fourR_code h
theorem escR_code {t:BA} {a b:Nat} {c:Int} (h:escR t a=.bad c b):c=31∨c=33:=by
 unfold escR at h;split at h
 ·cases h; exact .inl rfl
 ·split at h
  ·split at h
   ·rename_i h2;cases h;exact fourR_code h2
   ·split at h
    ·cases h
    ·unfold pairR at h;split at h
     ·cases h; exact .inl rfl
     ·split at h
      ·cases h; exact .inr rfl
      ·split at h
       ·cases h; exact .inl rfl
       ·split at h
        ·cases h; exact .inr rfl
        ·split at h
         ·rename_i h2;cases h;exact fourR_code h2
         ·cases h
  ·split at h
   ·cases h; exact .inr rfl
   ·cases h
theorem quoR_code {t:BA}:∀ {n a b:Nat} {acc:List Int} {c:Int},quoR t n a acc=.bad c b→c=31∨c=32∨c=33
 | 0,_,_,_,_,h=>by cases h; exact .inl rfl
 | n+1,a,b,acc,c,h=>by
  unfold quoR at h;split at h
  ·cases h; exact .inl rfl
  ·split at h
   ·cases h
   ·split at h
    ·split at h
     ·rename_i h2;cases h;rcases escR_code h2 with h3 | h3
      ·exact .inl h3
      ·exact .inr (.inr h3)
     ·exact quoR_code h
    ·split at h
     ·exact quoR_code h
     ·split at h
      ·exact quoR_code h
      ·rename_i h5;have:=seqK_cases t a;simp only [Rd.bad.injEq] at h;omega
end Go.Proofs.YtdcoiccdbgcpaaaDoor
